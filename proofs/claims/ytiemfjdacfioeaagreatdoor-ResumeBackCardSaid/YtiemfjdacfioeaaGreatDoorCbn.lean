/- A part of the proof of ResumeBack. -/
import Derived.Test.YtiemfjdacfioeaaGreatDoorCbm
set_option maxRecDepth 100000
set_option maxHeartbeats 8000000
set_option linter.unusedVariables false
set_option linter.unusedSimpArgs false
namespace Go.Opn
noncomputable section
open Go.Cre Go.RowKit Go.Proofs
theorem Zo{a b:Int}:-(a.natAbs:Int)<=a.tdiv b/\a.tdiv b<=(a.natAbs:Int):=by
 have h:(a.tdiv b).natAbs<=a.natAbs:=by rw[Int.natAbs_tdiv];exact Nat.div_le_self _ _
 omega
section
variable {Q:dI Tryz.prog}{g0:Nat}{B:ea}{o:Oper}{n:Nat}{ds:e7}{l:List (Nat×Value)}{m:aO}{J:aI}
theorem V.yW{t eD:TypeId}{x y:Operand}{a b:Int}(ar:o.op=.binOp .quo t x y eD:=by exact rfl) (U:b7 l x=some (.int .i64 a):=by exact rfl) (ai:b7 l y=some (.int .i64 b):=by exact rfl) (au:b≠0:=by first|decide|omega) (aa:-9223372036854775807<=a:=by omega) (ae:a<=9223372036854775807:=by omega):cV (bb Q g0) B o n ds l m J (.int .i64 (a.tdiv b)):=by
 have c7:=Zo (a:=a) (b:=b);exact ZE ar U ai (by show some (Value.int .i64 (IntKind.i64.wrap (a.tdiv b)))=_;rw[wrap_i64 (by omega) (by omega)]) au
end
def lk(l:List Int):List Int:=l.map fun v=>max 0 v
theorem Ye{l:List Int}{k:Nat}{x:Int}(h:l[k]?=some x):(lk l)[k]?=some (max 0 x):=by unfold lk;rw[pb,h];rfl
theorem IC{l:List Int}:∀v∈lk l,0<=v:=fun v az=>by
 unfold lk at az;obtain⟨x,_,rfl⟩:=As.1 az;exact Int.le_max_left _ _
theorem amm{l:List Int}{b:Int}(au:0<=b)(h:∀v∈l,v<=b):∀v∈lk l,v<=b:=fun v az=>by
 unfold lk at az;obtain⟨x,U,rfl⟩:=As.1 az;exact Int.max_le.2 ⟨au,h x U⟩
def mF(l:List Int):Int:=if(lk l).sum=0 then l.length else(lk l).sum
def zY(l:List Int)(i:Nat):Int:=if(lk l).sum=0 then i else((lk l).take i).sum
theorem Y4{l:List Int}(h:1<=l.length):0<mF l:=by
 unfold mF;have:=z1 (l:=lk l) IC;split<;>omega
theorem anB{D s W w:Int}(jg:0<D)(h:D*s<=65536*W)(hw:0<=w):D*(s+(65536*w).tdiv D)<=65536*(W+w)/\0<=(65536*w).tdiv D:=by
 have aa:0<=65536*w:=by omega
 have ae:D*(65536*w).tdiv D<=65536*w:=by
  rw[R8 aa];exact Int.mul_ediv_self_le (by omega)
 refine⟨?_,Int.tdiv_nonneg aa (by omega)⟩;rw[R6];omega
def wA(l L:List Int)(i:Nat)(left:Int):Prop:=L.length=l.length/\(∀v∈L,0<=v)/\(∀j:Nat,i<=j->j<l.length->L[j]?=some 0)/\left=65536 -L.sum/\mF l*L.sum<=65536*zY l i
theorem wA.zero{l:List Int}(h:1<=l.length):wA l (List.replicate l.length 0) 0 65536:=by
 have af:(List.replicate l.length (0:Int)).sum=0:=by
  have aa:=LZ (l:=List.replicate l.length (0:Int)) (b:=0) fun v az=>by rw[wo az];omega
  have ae:=z1 (l:=List.replicate l.length (0:Int)) fun v az=>by rw[wo az];omega
  omega
 refine⟨by simp,fun v az=>by rw[wo az];omega,fun j _ ba=>by rw[CM,aE ba],by rw[af];rfl,?_⟩;rw[af];unfold zY;split<;>simp
theorem wA.step{l L:List Int}{i:Nat}{left w:Int}(h:wA l L i left)(av:1<=l.length)(ao:i<l.length)(hw:0<=w)(jz:zY l (i+1)=zY l i+w):wA l (L.set i ((65536*w).tdiv (mF l))) (i+1) (left -(65536*w).tdiv (mF l))/\(L.set i ((65536*w).tdiv (mF l)))[i]?=some ((65536*w).tdiv (mF l))/\0<=(65536*w).tdiv (mF l)/\(65536*w).tdiv (mF l)<=65536*w:=by
 obtain⟨aa,ae,aG,br,eu⟩:=h;obtain⟨s1,s2⟩:=anB (Y4 av) eu hw;have bD:=aG i (cZ _) ao;have HI:=Zh (y:=(65536*w).tdiv (mF l)) bD;have c7:(65536*w).tdiv (mF l)<=65536*w:=by have:=Zo (a:=65536*w) (b:=mF l);omega
 refine⟨⟨by rw[gu];exact aa,fun v az=>?_,fun j ash VI=>?_,by rw[HI];omega,?_⟩,by rw[kH,aE rfl,aE (by omega)],s2,c7⟩
 ·rcases CN az with q|q
  ·exact ae v q
  ·rw[q];exact s2
 ·rw[kH,ap (by omega)];exact aG j (by omega) VI
 ·rw[HI,jz,Int.sub_zero];exact s1
def Av(l L:List Int)(left:Int):Prop:=L.length=l.length/\(∀v∈L,0<=v)/\left=65536 -L.sum/\0<=left
theorem Av.step{l L:List Int}{k:Nat}{x left:Int}(h:Av l L left)(U:L[k]?=some x)(bD:0<left):Av l (L.set k (x+1)) (left -1):=by
 obtain⟨aa,ae,aG,br⟩:=h;refine⟨by rw[gu];exact aa,fun v az=>?_,by rw[Zh U];omega,by omega⟩;rcases CN az with q|q
 ·exact ae v q
 ·rw[q];have:=ae x (cd U);omega
theorem Av.le{l L:List Int}{left x:Int}{k:Nat}(h:Av l L left)(U:L[k]?=some x):0<=x/\x<=65536:=by
 obtain⟨aa,ae,aG,br⟩:=h;have:=L0 ae U;exact⟨ae x (cd U),by omega⟩
theorem anA{l:List Int}{i:Nat}(ao:i<=l.length):zY l i<=mF l:=by
 unfold zY mF;split
 ·omega
 ·exact(rU IC i).2
theorem wA.Il{l L:List Int}{i:Nat}{left:Int}(h:wA l L i left)(av:1<=l.length)(ao:i<=l.length):0<=left/\left<=65536:=by
 obtain⟨aa,ae,aG,br,eu⟩:=h;have jz:=anA ao;have jg:=Y4 av;have bD:=z1 ae;have:L.sum<=65536:=by
  apply qN
  intro q;have gK:mF l*65537<=mF l*L.sum:=R7 (by omega) (by omega);omega
 omega
section
variable {Q:dI Tryz.prog}{g0:Nat}{J:aI}
theorem anC{l:List Int}{b:Option Addr}{c:Nat}(av:dG J (.slice b l.length c) l)(b0:1<=l.length)(dn:l.length<=60)(au:∀v∈l,v<=70368744177664):
 Fn (bb Q g0) 79 [.slice b l.length c] [] J (fun u m' ag=>J.le ag/\m'=[]/\∃b c L,u=.slice b l.length c/\dG ag u L/\L.length=l.length/\(∀v∈L,0<=v)/\L.sum=65536):=by
 have j':=av.iY;have HD:=LZ (amm (l:=l) (b:=70368744177664) (by omega) au);rw[show(lk l).length=l.length by unfold lk;simp] at HD;have BA:=z1 (l:=lk l) IC;refine Fn.cH (cQ Tryz.func79) rfl rfl fun H=>?_;refine rg ?_;refine I V.aA ?_;refine bj ?_;refine aM ?_;refine bj ?_;refine I V.aA ?_;refine ns ?_;refine ab.block ?_;refine' ab.c2 (l':=[(4,.int .i64 (0)),(5,.int .i64 ((0):Int)),(0,_),(3,_)]) ⟨?kF,?pR,rfl,rfl,trivial⟩ (bA _) ?_;case kF=>exact bS
 case pR=>exact bS
 refine aj ?_;refine' ab.rG (α:=(Nat)×(Int)) (fun(bH:(Nat)×(Int))=>match bH with|(i,s)=>[(4,.int .i64 s),(5,.int .i64 (i:Int))]) (fun(bH:(Nat)×(Int))=>match bH with|(i,s)=>i<=l.length/\s=((lk l).take i).sum) (fun(bH:(Nat)×(Int))=>match bH with|(i,s)=>l.length -i) ⟨0,0⟩ ?af ?bE
 case af=>exact⟨cB _,rfl⟩
 case bE=>
  rintro⟨i,s⟩ hinv;try simp only at hinv
  obtain⟨ao,af⟩:=hinv;refine rg ?_;refine aM ?_;refine I V.a1 ?_;refine ns ?_;refine If (fun yO=>?_) fun yO=>?_
  ·obtain⟨mh,iW,oD,e,rfl,rc,ia⟩:=j' (by omega);obtain⟨x,U,e0⟩:=ia i (by omega);have hW:=E3 (Ye U);have jB:=rU (l:=lk l) IC (i+1);have BB:=rU (l:=lk l) IC i;refine c5 ?_;refine aj ?_;refine ab.block ?_;refine rg ?_;refine aM ?_;refine I V.aX ?_;refine I V.aF ?_;refine' W.step rfl (Exec.val rfl rfl (L7 rfl rfl rfl rfl rfl) ?_);refine I V.bx ?_;refine I V.aA ?_;refine bj ?_;refine I V.ah ?_;refine I V.bx ?_;refine I V.aA ?_;refine a8 ?_;refine'⟨⟨i+1,s+max 0 x⟩,_,?hinv,?kw,rfl,⟨?m4,?m5,rfl,rfl,trivial⟩,bA _,rfl⟩;case m4=>exact bS
   case m5=>exact bS
   case kw=>exact cf
   case hinv=>exact⟨by omega,by omega⟩
  ·refine aj ?_;refine ab.exit ?_;obtain rfl:s=(lk l).sum:=by rw[af,et (by unfold lk;simp;omega)]
   refine aj ?_;refine ab.draw rfl (by kernel_rfl) (bf:=[.val 0,.gh 1,.val 2,.gh 3,.val 4,.val 5,.cF [2,0]]) (by kernel_rfl) ?_;refine an rfl V.ah ?_;refine a7.makeSlice rfl rfl rfl rfl rfl rfl rfl (eX Q g0) ?bD ?aa ?ae fun a28=>?_;case bD=>exact cf
   case aa=>exact cf
   case ae=>exact cf
   refine an rfl V.ah ?_;refine a7.makeSlice rfl rfl rfl rfl rfl rfl rfl (eX Q g0) ?bD ?aa ?ae fun FG=>?_;case bD=>exact cf
   case aa=>exact cf
   case ae=>exact cf
   refine cq ?_;refine a7.cF fC ?_;refine a7.nil ?_;rw[yi,cy];refine rg ?_;refine I V.aA ?_;refine bj ?_;refine I V.aA ?_;refine ns ?_;refine ab.block ?_;refine' ab.c2 (l':=[(8,.int .i64 (65536)),(9,.int .i64 ((0):Int)),(0,_),(3,_),(4,_),(6,_),(7,_)]) ⟨?jq,?pS,rfl,rfl,rfl,rfl,rfl,trivial⟩ (bA _) ?_;case jq=>exact bS
   case pS=>exact bS
   refine aj ?_;refine' ab.dF (fun(bH:Nat×Int×(List Int)×(List Int))=>match bH with|(i,left,L,R)=>⟨[(8,.int .i64 left),(9,.int .i64 (i:Int))],[ld FG R,ld a28 L],J,i<=l.length/\wA l L i left/\R.length=l.length,l.length -i⟩) ⟨0,65536,List.replicate l.length 0,List.replicate l.length 0⟩ ?af ?bE
   case af=>exact⟨cB _,wA.zero b0,by simp⟩
   case bE=>
    rintro⟨i,left,L,R⟩ hinv;try simp only at hinv
    obtain⟨ao,aJ,ey⟩:=hinv;refine rg ?_;refine aM ?_;refine I V.a1 ?_;refine ns ?_;refine If (fun pi=>?_) fun pi=>?_
    ·have DM:=aJ.1;refine c5 ?_;refine aj ?_;refine ab.block ?_;refine rg ?_;refine I V.ah ?_;refine I V.a1 ?_;refine ns ?_;refine If (fun oB=>?_) fun oB=>?_
     ·have jg:mF l=l.length:=by unfold mF;rw[aE oB]
      have di:=aJ.step b0 (by omega) (w:=1) (by omega) (by unfold zY;rw[aE oB,aE oB];omega);rw[jg,Int.mul_one] at di;have ql:=di.1.Il b0 (by omega);have jj:=aJ.Il b0 (by omega);have aic:=nh (off:=0+i*1) i di.2.1 (by omega);refine rg ?_;refine aM ?_;refine I V.yW ?_;refine I V.aX ?_;refine' W.step rfl (.of (hz rfl rfl rfl rfl (fY rfl) rfl rfl rfl ?aa ?af ?aw ?_));case aw=>repeat first|exact .head _ _ _ _|apply cR.tail|apply cR.app
      case af=>exact jo i (by omega)
      case aa=>first|rfl|assumption
      refine I V.aX ?_;refine' W.step rfl (.of (hz rfl rfl rfl rfl (fY rfl) rfl rfl rfl ?aa ?af ?aw ?_));case aw=>repeat first|exact .head _ _ _ _|apply cR.tail|apply cR.app
      case af=>exact jo i (by omega)
      case aa=>first|rfl|assumption
      refine bj ?_;refine aM ?_;refine I V.aX ?_;refine I V.aF ?_;refine I V.bx ?_;refine I V.aA ?_;refine bj ?_;refine I V.ah ?_;refine I V.bx ?_;refine I V.aA ?_;refine a8 ?_;refine cA ⟨i+1,left -(65536:Int).tdiv l.length,L.set i ((65536:Int).tdiv l.length),R.set i 1⟩ ?_;exact⟨by omega,di.1,by rw[gu];exact ey⟩
     ·obtain⟨mh,iW,oD,e,rfl,rc,ia⟩:=j' (by omega);obtain⟨x,U,e0⟩:=ia i (by omega);have jg:mF l=(lk l).sum:=by unfold mF;rw[ap oB]
      have di:=aJ.step b0 (by omega) (w:=max 0 x) (by omega) (by unfold zY;rw[ap oB,ap oB];exact E3 (Ye U));rw[jg] at di;have ql:=di.1.Il b0 (by omega);have jj:=aJ.Il b0 (by omega);have aic:=nh (off:=0+i*1) i di.2.1 (by omega);have HP:=au x (cd U);refine rg ?_;refine aM ?_;refine I V.aX ?_;refine I V.aF ?_;refine' W.step rfl (Exec.val rfl rfl (L7 rfl rfl rfl rfl rfl) ?_);refine I V.bx ?_;refine I V.aA ?_;refine ns ?_;refine ab.draw rfl (by kernel_rfl) (bf:=[.val 0,.val 1,.val 2,.val 3,.val 4,.val 5,.val 6,.val 7,.val 8,.val 9,.val 10,.bV 11,.val 12,.cF [9,8,7,3,2],.bV 13]) (by kernel_rfl) ?_;refine cq ?_;refine an rfl V.yW ?_;refine cq ?_;refine an rfl V.w1 ?_;refine an rfl V.aX ?_;refine' a7.fO rfl rfl (hz rfl rfl rfl rfl (fY rfl) rfl rfl rfl ?aa ?af ?aw ?_);case aw=>repeat first|exact .head _ _ _ _|apply cR.tail|apply cR.app
      case af=>exact jo i (by omega)
      case aa=>first|rfl|assumption
      refine an rfl V.aX ?_;refine a7.cF fC ?_;refine' a7.fO rfl rfl (hz rfl rfl rfl rfl (fY rfl) rfl rfl rfl ?aa ?af ?aw ?_);case aw=>repeat first|exact .head _ _ _ _|apply cR.tail|apply cR.app
      case af=>exact jo i (by omega)
      case aa=>first|rfl|assumption
      refine a7.nil ?_;refine rg ?_;refine aM ?_;refine I V.aX ?_;refine I V.aF ?_;refine I V.bx ?_;refine I V.aA ?_;refine bj ?_;refine I V.ah ?_;refine I V.bx ?_;refine I V.aA ?_;refine a8 ?_;refine cA ⟨i+1,left -(65536*max 0 x).tdiv (lk l).sum,L.set i ((65536*max 0 x).tdiv (lk l).sum),R.set i ((65536*max 0 x).tmod (lk l).sum)⟩ ?_;exact⟨by omega,di.1,by rw[gu];exact ey⟩
    ·have ql:=aJ.Il b0 (by omega);have agt:Av l L left:=⟨aJ.1,aJ.2.1,aJ.2.2.2.1,ql.1⟩;refine aj ?_;refine ab.exit ?_;refine aj ?_;refine ab.block ?_;refine' ab.c2 (l':=[(8,.int .i64 (left)),(3,_),(6,_),(7,_)]) ⟨?jq,rfl,rfl,rfl,trivial⟩ (bA _) ?_;case jq=>exact bS
     refine aj ?_;refine' ab.dF (fun(bH:Int×(List Int)×(List Int))=>match bH with|(Es,M,S)=>⟨[(8,.int .i64 Es)],[ld FG S,ld a28 M],J,Av l M Es/\S.length=l.length,Es.toNat⟩) ⟨left,L,R⟩ ?af ?bE
     case af=>exact⟨agt,ey⟩
     case bE=>
      rintro⟨Es,M,S⟩ hinv;try simp only at hinv
      obtain⟨tL,ax⟩:=hinv;refine rg ?_;refine I V.ah ?_;refine I V.a1 ?_;refine ns ?_;refine If (fun M1=>?_) fun M1=>?_
      ·
        have arW:=tL.1;have arV:Es<=65536:=by have:=tL.2.2.1;have:=z1 tL.2.1;omega
        refine c5 ?_;refine aj ?_;refine ab.block ?_;refine rg ?_;refine I V.aA ?_;refine bj ?_;refine I V.aA ?_;refine ns ?_;refine ab.block ?_;refine' ab.c2 (l':=[(11,.int .i64 ((0):Int)),(12,.int .i64 ((1):Int)),(3,_),(6,_),(7,_),(8,_)]) ⟨?yb,?uO,rfl,rfl,rfl,rfl,trivial⟩ (bA _) ?_;case yb=>exact bS
        case uO=>exact bS
        refine aj ?_;refine' ab.dF (fun(bH:Nat×Nat)=>match bH with|(k,aY)=>⟨[(11,.int .i64 (aY:Int)),(12,.int .i64 (k:Int))],[ld FG S,ld a28 M],J,aY<l.length/\1<=k/\k<=l.length,l.length -k⟩) ⟨1,0⟩ ?af ?bE
        case af=>exact⟨by omega,by omega,by omega⟩
        case bE=>
         rintro⟨k,aY⟩ hinv;try simp only at hinv
         obtain⟨zd,mZ,qj⟩:=hinv;refine rg ?_;refine aM ?_;refine I V.a1 ?_;refine ns ?_;refine If (fun pj=>?_) fun pj=>?_
         ·have Pn:=nh (off:=0+k*1) k (de (l:=S) (i:=k) (by omega)) (by omega);have Ho:=nh (off:=0+aY*1) aY (de (l:=S) (i:=aY) (by omega)) (by omega);refine c5 ?_;refine aj ?_;refine ab.block ?_;refine aj ?_;refine ab.draw rfl (by kernel_rfl) (bf:=[.val 0,.val 1,.val 2,.val 3,.val 4,.val 5,.val 6,.val 7,.val 8]) (by kernel_rfl) ?_;refine cq ?_;refine an rfl V.aX ?_;refine an rfl V.aF ?_;refine cq ?_;refine an rfl V.aX ?_;refine an rfl V.aF ?_;refine an rfl V.a1 ?_;refine a7.nil ?_;refine aj ?_;refine If (fun tp=>?_) fun tp=>?_
          ·refine rg ?_;refine aM ?_;refine bj ?_;refine I V.ah ?_;refine I V.bx ?_;refine I V.aA ?_;refine a8 ?_;refine cA ⟨k+1,k⟩ ?_;exact⟨by omega,by omega,by omega⟩
          ·refine aj ?_;refine ab.skip ?_;refine rg ?_;refine I V.ah ?_;refine I V.bx ?_;refine I V.aA ?_;refine a8 ?_;refine cA ⟨k+1,aY⟩ ?_;exact⟨by omega,by omega,by omega⟩
         ·refine aj ?_;refine ab.exit ?_;have ajw:=de (l:=M) (i:=aY) (by omega);obtain⟨y,ai⟩:∃y,M[aY]?=some y:=⟨_,ajw⟩;have as2:=tL.le ai;have ub:=nh (off:=0+aY*1) aY ai (by omega);refine rg ?_;refine aM ?_;refine I V.aX ?_;refine I V.aF ?_;refine I V.bx ?_;refine I V.aX ?_;refine' W.step rfl (.of (hz rfl rfl rfl rfl (fY rfl) rfl rfl rfl ?aa ?af ?aw ?_));case aw=>repeat first|exact .head _ _ _ _|apply cR.tail|apply cR.app
          case af=>exact jo aY (by omega)
          case aa=>first|rfl|assumption
          refine bj ?_;refine aM ?_;refine I V.aX ?_;refine' W.step rfl (.of (hz rfl rfl rfl rfl (fY rfl) rfl rfl rfl ?aa ?af ?aw ?_));case aw=>repeat first|exact .head _ _ _ _|apply cR.tail|apply cR.app
          case af=>exact jo aY (by omega)
          case aa=>first|rfl|assumption
          refine bj ?_;refine I V.ah ?_;refine I V.bx ?_;refine I V.aA ?_;refine a8 ?_;refine cA ⟨Es -1,M.set aY (y+1),S.set aY (-1)⟩ ?_;exact⟨tL.step ai (by omega),by rw[gu];exact ax⟩
      ·
        refine aj ?_;refine ab.exit ?_;refine ab.gB (m':=[_,_]) (fM 1 rfl (fM 0 rfl .nil)) ?_;refine ab.mD rfl fun hle=>?_;refine rg ?_;refine aM ?_;refine ns ?_;refine ab.ret ?_;refine c' ?_;refine⟨hle,rfl,some ⟨a28,0,none⟩,l.length,M,rfl,?_,tL.1,tL.2.1,by have:=tL.2.2.1;have:=tL.2.2.2;omega⟩;have:=dG.lit (a:=a28) (l:=M) (e:=3) (by have:=tL.1;exact wu (show M.length<=60 by omega) (by decide)) (aI.oy J a28 (M.map (Value.int .i64),3));rwa [tL.1] at this
end
def mR(P:Nat->List Int->Prop)(J:aI)(i:Nat)(cells:List Value)(S:List (List Int)):Prop:=cells.length=i/\S.length=i/\∀(j:Nat) r w,S[j]?=some r->cells[j]?=some w->dG J w r/\P j r
theorem mR.mono{P:Nat->List Int->Prop}{J ag:aI}{i:Nat}{cells:List Value}{S:List (List Int)}(hle:J.le ag)(h:mR P J i cells S):mR P ag i cells S:=
 ⟨h.1,h.2.1,fun j r w aa ae=>⟨(h.2.2 j r w aa ae).1.mono hle,(h.2.2 j r w aa ae).2⟩⟩
theorem mR.nil{P:Nat->List Int->Prop}{J:aI}:mR P J 0 [] []:=⟨rfl,rfl,fun j r w h _=>by cases h⟩
theorem mR.app{P:Nat->List Int->Prop}{J:aI}{i:Nat}{cells:List Value}{S:List (List Int)}{r:List Int}{w:Value}(h:mR P J i cells S)(aa:dG J w r)(ae:P i r):mR P J (i+1) (cells++[w]) (S++[r]):=by
 obtain⟨bp,bC,b5⟩:=h;refine⟨by simp[bp],by simp[bC],fun j dw bu g1 g2=>?_⟩;rcases vu g1 with q|⟨bd,a6⟩
 ·rcases vu g2 with p|⟨dS,iz⟩
  ·exact b5 j dw bu q p
  ·have:=eT q;omega
 ·rcases vu g2 with p|⟨dS,iz⟩
  ·have:=eT p;omega
  ·rw[a6,iz,bd,bC];exact⟨aa,ae⟩
theorem mR.sj{P:Nat->List Int->Prop}{J:aI}{e:TypeId}{i:Nat}{cells:List Value}{S:List (List Int)}{v:Value}(h:mR P J i cells S)(az:hL J e 1 v i cells):fa J e 1 (jI J) v S:=by
 obtain⟨bp,bC,b5⟩:=h;refine⟨cells,by rw[bC];exact az,fun j r ay=>?_⟩;have ba:=eT ay;have aH:=de (l:=cells) (i:=j) (by omega);have aN:(cells.drop (j*1)).take 1=[cells[j]]:=by rw[At,mO (by omega)];rfl
 rw[aN];have aa:=(b5 j r _ ay aH).1;obtain⟨b,c,au,_⟩:=aa.inv;rw[au] at aa ⊢;exact⟨b,c,rfl,aa⟩
theorem alR{α:Type}{x:α}{aY R:List α}:(x::([]++(aY++R))).Perm (aY++x::R):=by
 rw[me];exact List.perm_middle.symm
section
variable {Q:dI Tryz.prog}{g0:Nat}{J:aI}
theorem Y6{g:bz}{t:gI}{bs cu:Option Addr}{cs cD:Nat}{cm ao:Int}(hw:iP g)(aD:iS J t bs cs cu cD)(bT:lo g t.sum cm ao)(au:ao<=70368744177664):
 Fn (bb Q g0) 56 [mG t bs cs cu cD] [] J (fun u m' ag=>J.le ag/\m'=[]/\∃b c S,u=.slice b S.length c/\fa ag 22 1 (jI ag) (.slice b S.length c) S/\wz g S):=by
 have sV:addrEq bs bs=true:=aD.s.addr;have zP:addrEq cu cu=true:=aD.p.addr;obtain⟨_,DX⟩:=aD.s.at;obtain⟨ass,ah2⟩:=bT.len hw;refine Fn.cH (cQ Tryz.func56) rfl rfl fun H=>?_;refine rg ?_;refine dJ fun bo=>?_;refine I V.aA ?_;refine bj ?_;refine I V.aA ?_;refine bj ?_;refine I V.aA ?_;refine ns ?_;refine ab.block ?_;refine' ab.c2 (l':=[(3,(.slice none 0 0)),(4,.int .i64 ((0):Int)),(1,_)]) ⟨?kE,?kF,rfl,trivial⟩ (bA _) ?_;case kE=>exact bS
 case kF=>exact bS
 refine aj ?_;refine' ab.dF (fun(bH:Nat×Value×(List Value)×aO×(List (List Int))×aI)=>match bH with|(i,v,cells,aY,S,dY)=>⟨[(3,v),(4,.int .i64 (i:Int))],aY++[(bo,.row (hI t bs cs cu cD) 30)],dY,i<=t.sum.length/\J.le dY/\Acc 22 1 v i cells aY/\mR (fun j r=>(∃l,t.sum[j]?=some l/\r.length=l.length)/\(∀v∈r,0<=v)/\r.sum=65536) dY i cells S,t.sum.length -i⟩) ⟨0,.slice none 0 0,[],[],[],J⟩ ?af ?bE
 case af=>exact⟨cB _,aI.le.refl _,.nil,mR.nil⟩
 case bE=>
  rintro⟨i,v,cells,aY,S,dY⟩ hinv;try simp only at hinv
  obtain⟨ao,dr,cw,ey⟩:=hinv;refine rg ?_;refine aM ?_;refine I V.aF ?_;refine I V.bP ?_;refine I V.a1 ?_;refine ns ?_;refine If (fun dR=>?_) fun dR=>?_
  ·obtain⟨ha,jk,vf,vm,rfl,mu,lZ⟩:=DX (by omega);obtain⟨l,vh,av,vC,l2,jd,ko,rfl,n9⟩:=lZ i (by omega) (by omega);have sC:=l2 0 _ (by decide) rfl;rw[cy] at av;have Hj:=ah2 l (cd av);have mu:=dr _ _ mu;refine c5 ?_;refine aj ?_;refine ab.block ?_;refine rg ?_;refine aM ?_;refine I V.aF ?_;refine I V.ah ?_;refine I V.aX ?_;refine I V.aF ?_;refine cl (G:=anC (n9.mono dr) (by omega) (by omega) (fun v az=>by obtain⟨y,ai,_⟩:=bT.row av;have:=(bT.2 i l y av ai).2 v az;omega)) (h:=?_);rintro v' m' eZ cE ⟨_,rfl,bl,bw,L,rfl,Oe,DM,agB,agE⟩;refine jw (nl Q g0) fun lP=>?_;refine' W.step rfl (.of (kf rfl rfl rfl rfl rfl rfl (nl Q g0) (Cr Q g0) (fun i q=>by cases q) ?cw ?hm ?U ?cr ?cc ?av fun I0 Lf Bc=>?_));case cw=>assumption
   case hm=>exact alR
   case U=>exact hP
   case cr=>first|rfl|(simp;done)|(simp;omega)
   case cc=>first|rfl|exact hg _
   case av=>exact cf
   refine I V.aA ?_;refine bj ?_;refine I V.ah ?_;refine I V.bx ?_;refine I V.aA ?_;refine a8 ?_;refine cA ⟨i+1,I0,cells++[.slice bl l.length bw],Lf,S++[L],eZ⟩ ?_ (hm:=pX (bA _) (.cons _ (.refl _)));exact⟨by omega,dr.trans cE,Bc,(ey.mono cE).app Oe ⟨⟨l,av,DM⟩,agB,agE⟩⟩
  ·refine aj ?_;refine ab.exit ?_;obtain⟨bv,gJ,rfl⟩:=cw.form;refine cw.hx (.refl _) fun eZ cE xE=>?_;refine rg ?_;refine aM ?_;refine ns ?_;refine ab.ret ?_;refine c' ?_;have j4:=(ey.mono cE).sj xE;have A9:=ey.2.1;refine⟨dr.trans cE,rfl,bv,gJ,S,by rw[A9];rfl,by rw[A9];exact j4,⟨by have:=bT.1;omega,fun j r y ay ai=>?_⟩,fun r ay=>?_⟩
   ·obtain⟨l,av⟩:∃l,t.sum[j]?=some l:=⟨_,de (by have:=eT ay;omega)⟩
    obtain⟨w,kO⟩:∃w,cells[j]?=some w:=⟨_,de (by have:=eT ay;have:=ey.1;omega)⟩;obtain⟨⟨l',c6,rA⟩,px,Hz⟩:=(ey.2.2 j r w ay kO).2;have aa:=(bT.2 j l' y c6 ai).1;refine⟨by omega,fun v az=>⟨px v az,?_⟩⟩;obtain⟨k,aU⟩:=kj.1 az;have:=L0 px aU;omega
   ·obtain⟨j,ba⟩:=kj.1 ay
    obtain⟨w,kO⟩:∃w,cells[j]?=some w:=⟨_,de (by have:=eT ba;have:=ey.1;omega)⟩;exact(ey.2.2 j r w ba kO).2.2.2
end
end
end Go.Opn

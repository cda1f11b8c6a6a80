/- A part of the proof of ResumeBytes. -/
import Derived.Test.YtkmfhjilfjecmaaGreatDoorCaz
import Derived.Test.YtkmfhjilfjecmaaGreatDoorCaw
import Derived.Test.YtkmfhjilfjecmaaGreatDoorCay
set_option maxRecDepth 100000
set_option maxHeartbeats 8000000
set_option linter.unusedVariables false
set_option linter.unusedSimpArgs false
namespace Go.Opn
noncomputable section
open Go.Cre Go.RowKit Go.Proofs
theorem adZ(l:List UInt8):∃d r,l=d++r/\(∀c∈d,48<=c.toNat/\c.toNat<=57)/\JS r:=by
 induction l with
 |nil=>exact⟨[],[],rfl,(fun c h=>by cases h),(fun c r q=>by cases q)⟩
 |cons x l aI=>
  by_cases h:48<=x.toNat/\x.toNat<=57
  ·obtain⟨d,r,rfl,aa,ae⟩:=aI
   exact⟨x::d,r,rfl,(fun c aC=>(e3.1 aC).elim (fun q=>q▸h) (aa c)),ae⟩
  ·exact⟨[],x::l,rfl,(fun c h=>by cases h),alx h⟩
theorem alG{s X d r:List UInt8}{a k:Nat}{qM:Int}(hC:X.length=a)(h:X <+: s)(aO:(ss s a=45/\k=1/\qM=-1)\/(k=0/\qM=1))(og:s.drop (a+k)=d++r)(a1:∀c∈d,48<=c.toNat/\c.toNat<=57)(bw:¬(d.length=0\/15<d.length\/((d.headD 0).toNat=48/\(1<d.length\/qM<0)))):
 ∃n:Int,(iq d:Int)*qM=n/\X++Lib.itoa n <+: s/\(X++Lib.itoa n).length=a+k+d.length/\n.natAbs<1000000000000000:=by
 obtain⟨j,a'⟩:∃j,d.length=j+1:=⟨d.length -1,by omega⟩;have ay:=apD d.length d rfl a1;have BK:(10:Nat) ^ d.length<=10 ^ 15:=aa' (by decide) (by omega);have bE:∀b:Bool,(b=true->qM<0)->∀c r,d=c::r->c.toNat=48->r=[]/\b=false:=fun b ap c r q aC=>by
  subst q;have aC:((c::r).headD 0).toNat=48:=aC;refine⟨q5.1 (by simp only[jh] at bw;omega),?_⟩;cases b with
  |false=>rfl
  |true=>have:=ap rfl;omega
 obtain⟨t,rfl⟩:=h;subst hC;rcases aO with⟨Ot,rfl,rfl⟩|⟨rfl,rfl⟩
 ·have e:=Xh (b:=true) a' a1 (bE true fun _=>by decide)
  rw[aE rfl,aE rfl] at e;refine⟨-(iq d:Int),by omega,?_⟩;rw[e];cases t with
  |nil=>rw[Gi (by simp)] at Ot;cases Ot
  |cons c t=>
   rw[Gj (b:=c) (by simp)] at Ot;have:c=45:=UInt8.toNat_inj.1 (by show c.toNat=45;omega);subst this;have og:t=d++r:=by rw[<-yz,SB] at og;exact og
   exact⟨⟨r,by rw[og];simp⟩,by simp;omega,by omega⟩
 ·have e:=Xh (b:=false) a' a1 (bE false fun q=>by cases q)
  rw[an CU,an CU,k2] at e;refine⟨iq d,by omega,?_⟩;rw[e];rw[tn,SB] at og;exact⟨⟨r,by rw[og];simp⟩,by simp,by omega⟩
theorem ab5{s:List UInt8}{a:Nat}(h:ss s a=45):a<s.length:=by
 rcases ji a s.length with g|g
 ·exact g
 ·rw[Gi (fo g)] at h;cases h
section
variable {Q:dD Tryz.prog}{g0:Nat}{J:aH}
open Classical in
theorem IG{ac a:Nat}{s X:List UInt8}{lw dZ e:Int}(hC:X.length=a)(h:X <+: s)(hs:s.length<=100000)(he:e≠0):nW (bd Q g0) 45 [fA ac,.int .i64 lw,.int .i64 dZ,.int .i64 e] [fh ac s a] J (fun u m' af=>∃n b,u=.int .i64 n/\lw<=n/\n<=dZ/\n.natAbs<1000000000000000/\X++Lib.itoa n <+: s/\(X++Lib.itoa n).length=b/\m'=[fh ac s b]/\J=af) (AA J):=by
 have a1:=h.length_le;refine nW.cH (cM Tryz.func45) rfl rfl fun H=>?_;refine rg ?_;refine I V.az ?_;refine bi ?_;refine aM ?_;refine I V.aG ?_;refine I V.az ?_;refine bi ?_;refine aM ?_;refine bi ?_;refine I V.ag ?_;refine' W.step rfl (Exec.call rfl rfl rfl rfl rfl rfl rfl (bf:=[fh ac s a]) (bM:=[]) (.refl _) trivial (QQ (by omega) hs) ?_);rintro v m' af hle ⟨rfl,rfl,rfl⟩;refine I V.aZ ?_;refine a6 ?_;refine fR [10,21,0,1,2,3,9] ?_;refine aj ?_;refine' ab.y2 (α:=(Nat)×(Int)) 2 (fun(bC:(Nat)×(Int))=>match bC with|(k,qM)=>[(10,.int .i64 qM)]) (fun(bC:(Nat)×(Int))=>match bC with|(k,qM)=>[fh ac s (a+k)]) (fun(bC:(Nat)×(Int))=>match bC with|(k,qM)=>J) (fun(bC:(Nat)×(Int))=>match bC with|(k,qM)=>a+k<=s.length/\((ss s a=45/\k=1/\qM=-1)\/(k=0/\qM=1))) ?ac1 ?ad4
 case ac1=>
  refine If (fun yX=>?_) fun yX=>?_
  ·have as0:=ab5 yX;refine rg ?_;refine I V.az ?_;refine bi ?_;refine aM ?_;refine I V.aG ?_;refine I V.bt ?_;refine aM ?_;refine dC ?_;refine a6 ?_;refine'⟨⟨1,-1⟩,_,?hinv,rfl,⟨?m10,rfl,rfl,rfl,rfl,rfl,trivial⟩,rR,rfl⟩;case m10=>exact bP
   case hinv=>exact⟨by omega,.inl ⟨yX,rfl,rfl⟩⟩
  ·refine aj ?_;refine ab.skip ?_;refine'⟨⟨0,1⟩,_,?hinv,rfl,⟨?m10,rfl,rfl,rfl,rfl,rfl,trivial⟩,rR,rfl⟩;case m10=>exact bP
   case hinv=>exact⟨by omega,.inr ⟨rfl,rfl⟩⟩
 case ad4=>
  rintro⟨k,qM⟩ hinv;try simp only at hinv
  obtain⟨ahz,aO⟩:=hinv;obtain⟨d,r,og,bx,dM⟩:=adZ (s.drop (a+k));have Bu:=UA og ahz;refine rg ?_;refine I V.ag ?_;refine' W.step rfl (Exec.call rfl rfl rfl rfl rfl rfl rfl (bf:=[fh ac s (a+k)]) (bM:=[]) (.refl _) trivial (ad0 og (by omega) hs bx dM) ?_);rintro v m' af hle ⟨rfl,rfl,rfl⟩;refine I V.az ?_;refine a6 ?_;refine fR [0,1,2,3,9,10,11] ?_;refine aj ?_;refine' ab.hl 0 [(52,.bool (decide ((d.length=0\/15<d.length\/((d.headD 0).toNat=48/\(1<d.length\/qM<0))))))] ?Gv ?GF;case Gv=>
   refine ab.region ?_;refine aM ?_;refine I V.aZ ?_;refine I V.ag ?_;refine dr 34 (fun On=>?_) fun On=>?_
   ·refine ah ?_;refine ah ?_;refine ah ?_;refine I V.aU ?_;refine I V.ag ?_;refine ah ?_;refine ah ?_;refine ah ?_;refine ah ?_;refine oH ?_;refine oH ?_;refine oH ?_;refine oH ?_;refine oH ?_;refine oH ?_;refine oH ?_;refine ah ?_;refine I V.aU ?_;refine a6 ?_;refine'⟨⟨_,rfl,⟨?x7,rfl,rfl,rfl,rfl,rfl,rfl,rfl,trivial⟩⟩,bu _,rfl⟩;case x7=>first|exact iV rfl (by first|omega|(rw[pE];omega))|exact iT rfl (by first|omega|(rw[pE];omega))|exact iU rfl (by first|omega|(rw[pE];omega))
   ·obtain⟨dS,d1,aV⟩:∃dS d1,d=dS::d1:=List.exists_cons_of_length_pos (by omega);have kc:d[(0:Int).toNat]?=some dS:=by rw[aV];rfl
    have pE:d.headD 0=dS:=by rw[aV];rfl
    refine aX V.ag ?_;refine aX V.x2 ?_;refine aX V.aZ ?_;refine I V.aU ?_;refine I V.ag ?_;refine dr 39 (fun agH=>?_) fun agH=>?_
    ·refine ah ?_;refine ah ?_;refine ah ?_;refine ah ?_;refine oH ?_;refine oH ?_;refine oH ?_;refine oH ?_;refine oH ?_;refine oH ?_;refine oH ?_;refine ah ?_;refine I V.aU ?_;refine a6 ?_;refine'⟨⟨_,rfl,⟨?x7,rfl,rfl,rfl,rfl,rfl,rfl,rfl,trivial⟩⟩,bu _,rfl⟩;case x7=>first|exact iV rfl (by first|omega|(rw[pE];omega))|exact iT rfl (by first|omega|(rw[pE];omega))|exact iU rfl (by first|omega|(rw[pE];omega))
    ·refine aX V.ag ?_;refine aX V.BQ ?_;refine aX V.aZ ?_;refine aX V.ag ?_;refine dr 43 (fun agF=>?_) fun agF=>?_
     ·refine aX V.ag ?_;refine aX V.x2 ?_;refine aX V.aZ ?_;refine aX V.ag ?_;refine dr 47 (fun agG=>?_) fun agG=>?_
      ·
        refine ah ?_;refine ah ?_;refine aX V.aU ?_;refine aX V.aU ?_;refine I V.aU ?_;refine a6 ?_;refine'⟨⟨_,rfl,⟨?x7,rfl,rfl,rfl,rfl,rfl,rfl,rfl,trivial⟩⟩,bu _,rfl⟩;case x7=>first|exact iV rfl (by first|omega|(rw[pE];omega))|exact iT rfl (by first|omega|(rw[pE];omega))|exact iU rfl (by first|omega|(rw[pE];omega))
      ·
        refine aX V.ag ?_;refine aX V.aZ ?_;refine aX V.aU ?_;refine aX V.aU ?_;refine I V.aU ?_;refine a6 ?_;refine'⟨⟨_,rfl,⟨?x7,rfl,rfl,rfl,rfl,rfl,rfl,rfl,trivial⟩⟩,bu _,rfl⟩;case x7=>first|exact iV rfl (by first|omega|(rw[pE];omega))|exact iT rfl (by first|omega|(rw[pE];omega))|exact iU rfl (by first|omega|(rw[pE];omega))
     ·refine ah ?_;refine ah ?_;refine ah ?_;refine ah ?_;refine oH ?_;refine oH ?_;refine ah ?_;refine aX V.aU ?_;refine I V.aU ?_;refine a6 ?_;refine'⟨⟨_,rfl,⟨?x7,rfl,rfl,rfl,rfl,rfl,rfl,rfl,trivial⟩⟩,bu _,rfl⟩;case x7=>first|exact iV rfl (by first|omega|(rw[pE];omega))|exact iT rfl (by first|omega|(rw[pE];omega))|exact iU rfl (by first|omega|(rw[pE];omega))
  case GF=>
   refine aj ?_;refine If (fun n5=>?_) fun n5=>?_
   ·refine rg ?_;refine I V.ag ?_;refine I V.ag ?_;exact W.k9 rfl rfl rfl rfl rfl rfl rfl rfl (bf:=[]) (bM:=[fh ac s (a+k+d.length)]) (.refl _) (GS (by decide)) (fun _ _ _ _ h=>h.elim) lW
   ·obtain⟨n,hmul,P1,uh,aiN⟩:=alG hC h aO og bx n5;have atK:iq d<1000000000000000:=by rcases aO with⟨_,_,rfl⟩|⟨_,rfl⟩<;>omega
    refine ln ?_;refine aM ?_;refine bi ?_;refine aM ?_;refine ns ?_;refine ab.block ?_;refine' ab.c0 (l':=[(12,.int .i64 (iq (d.take (0)):Int)),(59,.int .i64 ((0):Int)),(0,_),(1,_),(2,_),(3,_),(9,_),(10,_),(11,_),(58,_)]) ⟨?uQ,?aat,rfl,rfl,rfl,rfl,rfl,rfl,rfl,rfl,trivial⟩ (bu _) ?_;case uQ=>exact bP
    case aat=>exact bP
    refine aj ?_;refine' ab.dF (fun(i:Nat)=>⟨[(12,.int .i64 (iq (d.take i):Int)),(59,.int .i64 (i:Int))],[fh ac s (a+k+d.length)],J,i<=d.length,d.length -i⟩) (0) ?hs ?bA;case hs=>exact cy _
    case bA=>
     rintro i hinv;try simp only at hinv
     have ao:=hinv;have Le:=aac ao;refine rg ?_;refine I V.aZ ?_;refine ns ?_;refine If (fun Dj=>?_) fun Dj=>?_
     ·have O2:=dj (l:=d) (i:=i) (by omega);have as8:d[((i:Nat):Int).toNat]?=some d[i]:=by rw[cx];exact O2
      have lL:=bx _ (cb O2);have zu:=aad O2;have BK:=aac (d:=d) (i:=i+1) (by omega);generalize d[i]=Dn at*;refine c7 ?_;refine aj ?_;refine ab.block ?_;refine rg ?_;refine aM ?_;refine bi ?_;refine I V.ag ?_;refine I V.bt ?_;refine aM ?_;refine I V.BQ ?_;refine I V.bt ?_;refine I V.gJ ?_;refine I V.bt ?_;refine I V.az ?_;refine bi ?_;refine I V.bt ?_;refine I V.ag ?_;refine a6 ?_;refine cB (i+1) ?_;exact(by omega)
     ·obtain rfl:i=d.length:=by omega
      rw[tm];refine aj ?_;refine ab.exit ?_;refine rg ?_;refine aM ?_;refine' W.step rfl (Exec.val rfl rfl (My rfl rfl rfl rfl ?hw) ?_);case hw=>exact(cD IntKind.i64.wrap hmul).trans (wrap_i64 (by omega) (by omega))
      refine I V.az ?_;refine a6 ?_;refine fR [1,2,0,3,9,12] ?_;refine aj ?_;refine' ab.hl 2 [(81,.bool (decide ((n<lw\/dZ<n))))] ?adr ?aed;case adr=>
       refine ab.region ?_;refine aM ?_;refine I V.aZ ?_;refine I V.ag ?_;refine dr 77 (fun agk=>?_) fun agk=>?_
       ·refine ah ?_;refine ah ?_;refine ah ?_;refine I V.aU ?_;refine a6 ?_;refine'⟨⟨_,rfl,⟨?QL,rfl,rfl,rfl,rfl,trivial⟩⟩,bu _,rfl⟩;case QL=>first|exact iV rfl (by omega)|exact iT rfl (by omega)|exact iU rfl (by omega)
       ·refine aX V.ag ?_;refine aX V.ag ?_;refine aX V.aZ ?_;refine I V.aU ?_;refine a6 ?_;refine'⟨⟨_,rfl,⟨?QL,rfl,rfl,rfl,rfl,trivial⟩⟩,bu _,rfl⟩;case QL=>first|exact iV rfl (by omega)|exact iT rfl (by omega)|exact iU rfl (by omega)
      case aed=>
       refine aj ?_;refine If (fun acy=>?_) fun acy=>?_
       ·refine rg ?_;refine I V.ag ?_;refine I V.ag ?_;refine I V.ag ?_;exact W.k9 rfl rfl rfl rfl rfl rfl rfl rfl (bf:=[]) (bM:=[fh ac s (a+k+d.length)]) (.refl _) (GS he) (fun _ _ _ _ h=>h.elim) lW
       ·refine aj ?_;refine ab.skip ?_;refine rg ?_;refine aM ?_;refine ns ?_;refine ab.ret ?_;exact LE ⟨n,_,rfl,by omega,by omega,aiN,P1,uh,rfl,rfl⟩
end
theorem afh{vs Z:List Int}{n:Int}{i:Nat}(ao:vs.length=i)(bE:i<Z.length):(vs++Z.drop i).set i n=(vs++[n])++Z.drop (i+1):=by
 rw[ny bE,aa9 _ _ (by omega),ao,sf,List.set_cons_zero,gw];rfl
theorem X7{vs:List Int}{n:Int}:ih (vs++[n])=ih vs++(32::Lib.itoa n):=by unfold ih;simp
section
variable {Q:dD Tryz.prog}{g0:Nat}{J:aH}
open Classical in
theorem X9{ac cj a k:Nat}{s X:List UInt8}{Z:List Int}{lw dZ:Int}(hC:X.length=a)(h:X <+: s)(hs:s.length<=100000)(asS:Z.length=k)(hlen:k<=1000):nW (bd Q g0) 46 [fA ac,.slice (some ⟨cj,0,none⟩) k k,.int .i64 lw,.int .i64 dZ] [fh ac s a,(cj,.row (Z.map (Value.int .i64)) 3)] J (fun u m' af=>∃vs b,vs.length=k/\X++(ih vs++[10]) <+: s/\(X++(ih vs++[10])).length=b/\m'=[fh ac s b,(cj,.row (vs.map (Value.int .i64)) 3)]/\J=af) (AA J):=by
 refine nW.cH (cM Tryz.func46) rfl rfl fun H=>?_;refine rg ?_;refine aM ?_;refine ns ?_;refine ab.block ?_;refine' ab.c0 (l':=[(11,.int .i64 ((0):Int)),(0,_),(1,_),(2,_),(3,_),(10,_)]) ⟨?yp,rfl,rfl,rfl,rfl,rfl,trivial⟩ (bu _) ?_;case yp=>exact bP
 refine aj ?_;refine' ab.dF (fun(bC:Nat×(List Int)×Nat)=>match bC with|(i,vs,b)=>⟨[(11,.int .i64 (i:Int))],[fh ac s b,(cj,.row ((vs++Z.drop i).map (Value.int .i64)) 3)],J,i<=k/\vs.length=i/\X++ih vs <+: s/\(X++ih vs).length=b,k -i⟩) ⟨0,[],a⟩ ?hs ?bA
 case hs=>exact⟨cy _,rfl,by simpa[ih] using h,by simpa[ih] using hC⟩
 case bA=>
  rintro⟨i,vs,b⟩ hinv;try simp only at hinv
  obtain⟨ao,rQ,au,ap⟩:=hinv;have dE:=au.length_le;refine rg ?_;refine I V.aZ ?_;refine ns ?_;refine If (fun Gk=>?_) fun Gk=>?_
  ·refine aj ?_;refine ab.skip ?_;refine aj ?_;refine ab.block ?_;refine rg ?_;refine aM ?_;refine bi ?_;refine I V.ag ?_;refine W.k9 rfl rfl rfl rfl rfl rfl rfl rfl (bf:=[fh ac s b]) (bM:=[(cj,_)]) (.refl _) (vz (w:=[32]) ap au hs (by decide)) ?_ lW;rintro v' m' af hle ⟨b1,rL,kP,rfl,rfl⟩;refine bi ?_;refine I V.ag ?_;refine I V.ag ?_;refine I V.ag ?_;refine I V.ag ?_;refine I V.ag ?_;refine W.k9 rfl rfl rfl rfl rfl rfl rfl rfl (bf:=[fh ac s b1]) (bM:=[(cj,_)]) (.refl _) (IG kP rL hs (by decide)) ?_ lW;rintro v' m' af hle ⟨n,b2,rfl,_,_,_,HI,mb,rfl,rfl⟩;refine I V.aW ?_;refine' W.step rfl (.of (hy rfl rfl rfl rfl (fQ rfl) rfl rfl rfl ?aa ?hs ?au ?_));case au=>repeat first|exact .head _ _ _ _|apply cQ.tail|apply cQ.app
   case hs=>exact jA i (by simp;omega)
   case aa=>first|rfl|assumption
   refine a6 ?_;rw[afh rQ (by omega)];refine rg ?_;refine I V.bt ?_;refine I V.ag ?_;refine a6 ?_;refine cB ⟨i+1,vs++[n],b2⟩ ?_;exact⟨by omega,by rw[dP,rQ];rfl,by rw[X7];simpa using HI,by rw[X7];simpa using mb⟩
  ·obtain rfl:i=k:=by omega
   have aho:vs++Z.drop i=vs:=by rw[Av (by omega),gj]
   refine aj ?_;refine ab.exit ?_;refine ab.gN (m':=[fh ac s b,(cj,.row (vs.map (Value.int .i64)) 3)]) (by show List.Perm _ [fh ac s b,(cj,cC.row ((vs++Z.drop i).map (Value.int .i64)) 3)];rw[aho]) ?_;refine rg ?_;refine I V.ag ?_;refine W.k9 rfl rfl rfl rfl rfl rfl rfl rfl (bf:=[fh ac s b]) (bM:=[(cj,_)]) (.refl _) (vz (w:=[10]) ap au hs (by decide)) ?_ lW;rintro v' m' af hle ⟨b1,rL,kP,rfl,rfl⟩;refine a6 ?_;rw[gw] at rL kP;exact LE ⟨vs,_,rQ,rL,kP,rfl,rfl⟩
end
end
end Go.Opn
set_option maxHeartbeats 4000000
namespace Go.Opn
noncomputable section
open Go.Cre Go.RowKit Go.Proofs
theorem fc.at{α:Type}{J:aH}{e:TypeId}{sz n c:Nat}{b:Option Addr}{R:α->List Value->Prop}{xs:List α}(h:fc J e sz R (.slice b n c) xs):n=xs.length/\(0<xs.length->∃a off cells bz,b=some ⟨a,off,none⟩/\J a=some (cells,bz)/\
 ∀i:Int,0<=i->i<xs.length->∃x cs,xs[i.toNat]?=some x/\takeN sz (nJ (off+i.toNat*sz) cells)=some cs/\(∀k v,k<sz->nth cs k=some v->nth cells (off+i.toNat*sz+k)=some v)/\R x cs):=by
 obtain⟨aa,ae⟩:=h.get;refine⟨aa,fun au=>?_⟩;obtain⟨a,off,cells,bz,bl,bp,bQ⟩:=ae au;refine⟨a,off,cells,bz,bl,bp,fun i i0 i1=>?_⟩;have U:=dj (l:=xs) (i:=i.toNat) (by omega);obtain⟨cs,c1,c2⟩:=bQ _ _ U;rw[cx] at c1;refine⟨_,cs,U,c1,fun k v aO ay=>?_,c2⟩;obtain⟨q,_,_⟩:=Fh c1;rw[kE] at ay ⊢;rw[q,tJ,kK,aE aO,q4] at ay;exact ay
theorem hf(l:List Int):(l.map (Value.int .i64)).all eM=true:=by
 induction l with
 |nil=>rfl
 |cons a l aI=>rw[nz,sb,aI];rfl
def jX(aY:aN)(J:aH)(b:Option Addr)(l:List Int):Prop:=0<l.length->∃a off cells,b=some ⟨a,off,none⟩/\hW aY J a cells/\∀i:Int,0<=i->i<l.length->∃x,l[i.toNat]?=some x/\nth cells (off+i.toNat*1)=some (.int .i64 x)
theorem dI.iH{J:aH}{b:Option Addr}{n c:Nat}{l:List Int}(h:dI J (.slice b n c) l)(aY:aN):jX aY J b l:=fun au=>by
 obtain⟨_,_,aF⟩:=h.get;obtain⟨a,off,cells,e,bo,eB,ht⟩:=aF au;exact⟨a,off,cells,bo,.fw eB,ht⟩
theorem jX.own{a:Nat}{e:TypeId}{J:aH}{l:List Int}{m:aN}(h:(a,cC.row (l.map (Value.int .i64)) e)∈m):jX m J (some ⟨a,0,none⟩) l:=fun au=>
 ⟨a,0,_,rfl,.own h,fun i i0 i1=>⟨_,dj (by omega),nm i.toNat (dj (by omega))⟩⟩
theorem hW.cons{m:aN}{J:aH}{a:Nat}{cells:List Value}{x:Nat×cC}(h:hW m J a cells):hW (x::m) J a cells:=by
 cases h with
 |own h=>exact .own (.tail _ h)
 |opn h=>exact .opn (.tail _ h)
 |h6 h=>exact .h6 (.tail _ h)
 |fw h=>exact .fw h
theorem hW.sub{m m':aN}{J:aH}{a:Nat}{cells:List Value}(h:hW m J a cells)(hs:∀x∈m,x∈m'):hW m' J a cells:=by
 cases h with
 |own h=>exact .own (hs _ h)
 |opn h=>exact .opn (hs _ h)
 |h6 h=>exact .h6 (hs _ h)
 |fw h=>exact .fw h
def nC(J:aH)(x:cR)(cs:List Value):Prop:=∃b1 c1 b2 c2 b3 c3,cs=[.int .i64 x.k,.int .i64 x.p,.int .i64 x.i,.slice b1 x.ak.length c1,.slice b2 x.ws.length c2,.slice b3 x.fF.length c3]/\dI J (.slice b1 x.ak.length c1) x.ak/\dI J (.slice b2 x.ws.length c2) x.ws/\dI J (.slice b3 x.fF.length c3) x.fF
theorem nC.mono{J af:aH}(hle:J.le af){x:cR}{cs:List Value}(h:nC J x cs):nC af x cs:=by
 obtain⟨b1,c1,b2,c2,b3,c3,aa,ae,aF,bo⟩:=h;exact⟨b1,c1,b2,c2,b3,c3,aa,ae.mono hle,aF.mono hle,bo.mono hle⟩
def uX(x:Int×Int)(cs:List Value):Prop:=cs=[.int .i64 x.1,.int .i64 x.2]
structure fH (J:aH) (g:bq) (aT:Option Addr) (aQ:Nat) (aK:Option Addr) (ci:Nat):Prop where
 n:fc J 47 6 (nC J) (.slice aT g.ns.length aQ) g.ns
 i:fc J 77 2 uX (.slice aK g.is.length ci) g.is
theorem fH.mono{J af:aH}(hle:J.le af){g:bq}{aT aK:Option Addr}{aQ ci:Nat}(h:fH J g aT aQ aK ci):fH af g aT aQ aK ci:=⟨h.n.mono hle fun _ _ q=>q.mono hle,h.i.mono hle fun _ _ q=>q⟩
abbrev iw(g:bq)(aT:Option Addr)(aQ:Nat)(aK:Option Addr)(ci:Nat):List Value:=[.int .i64 g.pl,.slice aT g.ns.length aQ,.slice aK g.is.length ci]
abbrev hb(g:bq)(aT:Option Addr)(aQ:Nat)(aK:Option Addr)(ci:Nat):Value:=.agg (iw g aT aQ aK ci).toArray
abbrev M3(v:Value)(J:aH):Value->aN->aH->Prop:=fun w m' af=>w=v/\m'=[]/\af=J
abbrev tr(v:Value)(J:aH):Value->aN->aH->Prop:=fun w m' af=>w=v/\m'=[]/\J.le af
section
variable {Q:dD Tryz.prog}{g0:Nat}{J:aH}
def k':Int->Int->List UInt8->Int×Int
 |a,b,[]=>(a,b)
 |a,b,x::s=>k' ((IntKind.i64.wrap (a+x.toNat)).tmod 65521) ((IntKind.i64.wrap (b+(IntKind.i64.wrap (a+x.toNat)).tmod 65521)).tmod 65521) s
def ri(s:List UInt8):Int:=IntKind.i64.wrap (IntKind.i64.wrap (65536*(k' 1 0 s).2)+(k' 1 0 s).1)
theorem ac6{s:List UInt8}{i:Nat}{x:UInt8}{a b:Int}(U:s[i]?=some x):k' a b (s.drop i)=k' ((IntKind.i64.wrap (a+x.toNat)).tmod 65521) ((IntKind.i64.wrap (b+(IntKind.i64.wrap (a+x.toNat)).tmod 65521)).tmod 65521) (s.drop (i+1)):=by
 have ao:i<s.length:=(dY.1 U).1;rw[ny ao];have:s[i]=x:=by rw[dj ao] at U;injection U
 rw[this];rfl
theorem Ue{s:List UInt8}(hs:s.length<=140737488355328):Fn (bd Q g0) 12 [.string ⟨⟨s⟩⟩] [] J (M3 (.int .i64 (ri s)) J):=by
 refine Fn.cH (cM Tryz.func12) rfl rfl fun H=>?_;refine rg ?_;refine I V.az ?_;refine bi ?_;refine aM ?_;refine bi ?_;refine aM ?_;refine ns ?_;refine ab.block ?_;refine' ab.c0 (l':=[(3,.int .i64 (1)),(4,.int .i64 (0)),(8,.int .i64 ((0):Int)),(0,_),(7,_)]) ⟨?jf,?j4,?jC,rfl,rfl,trivial⟩ (bu _) ?_;case jf=>exact bP
 case j4=>exact bP
 case jC=>exact bP
 refine aj ?_;refine' ab.rT (α:=(Nat)×(Int)×(Int)) (fun(bC:(Nat)×(Int)×(Int))=>match bC with|(i,a,b)=>[(3,.int .i64 a),(4,.int .i64 b),(8,.int .i64 (i:Int))]) (fun(bC:(Nat)×(Int)×(Int))=>match bC with|(i,a,b)=>i<=s.length/\k' 1 0 s=k' a b (s.drop i)) (fun(bC:(Nat)×(Int)×(Int))=>match bC with|(i,a,b)=>s.length -i) ⟨0,1,0⟩ ?hs ?bA
 case hs=>exact⟨by omega,rfl⟩
 case bA=>
  rintro⟨i,a,b⟩ hinv;try simp only at hinv
  obtain⟨ao,ld⟩:=hinv;refine rg ?_;refine I V.aZ ?_;refine ns ?_;refine If (fun dG=>?_) fun dG=>?_
  ·obtain⟨x,atT,U⟩:=get_at s i (by omega);have atP:x.toNat<256:=x.toNat_lt;refine c7 ?_;refine aj ?_;refine ab.block ?_;refine rg ?_;refine aM ?_;refine bi ?_;refine aM ?_;refine I V.BQ ?_;refine I V.gJ ?_;refine I V.aZ ?_;refine I V.xf ?_;refine I V.az ?_;refine bi ?_;refine aM ?_;refine I V.aZ ?_;refine I V.xf ?_;refine I V.az ?_;refine bi ?_;refine I V.bt ?_;refine I V.ag ?_;refine a6 ?_;refine'⟨⟨i+1,_,_⟩,_,?hinv,?ky,rfl,⟨?m3,?m4,?m8,rfl,rfl,trivial⟩,bu _,rfl⟩;case m3=>exact bP
   case m4=>exact bP
   case m8=>exact bP
   case ky=>exact cc
   case hinv=>exact⟨by omega,by rw[ld,ac6 U]⟩
  ·refine aj ?_;refine ab.exit ?_;refine rg ?_;refine I V.ag ?_;refine I V.aZ ?_;refine I V.ag ?_;refine I V.aZ ?_;refine I V.az ?_;refine ns ?_;refine ab.ret ?_;refine c5 ?_;refine⟨cD (Value.int .i64) ?_,rfl,rfl⟩;rw[Av (by omega)] at ld;unfold ri;rw[ld];rfl
end
section
variable {Q:dD Tryz.prog}{g0:Nat}{J:aH}
def NQ(d n:Int):Int:=(IntKind.i64.wrap (IntKind.i64.wrap (IntKind.i64.wrap (31*d)+n)+1000001)).tmod 2147483647
def dg(d:Int)(l:List Int):Int:=l.foldl NQ d
theorem Dx(d:Int)(l l':List Int):dg d (l++l')=dg (dg d l) l':=JF
theorem adX{d:Int}{l:List Int}{i:Nat}{x:Int}(U:l[((i:Nat):Int).toNat]?=some x):NQ (dg d (l.take i)) x=dg d (l.take (i+1)):=by
 rw[cx] at U;rw[nY,U];simp[dg]
abbrev oQ(ad:Nat)(d:Int):Nat×cC:=(ad,.row [.int .i64 d] 73)
theorem Db{ad:Nat}{d:Int}{aY:aN}{b:Option Addr}{c:Nat}{l:List Int}(av:jX aY J b l)(aP:l.length<=1000000):
 Fn (bd Q g0) 28 [.pointer (some ⟨ad,0,none⟩),.slice b l.length c] (oQ ad d::aY) J (fun _ m' af=>m'=[oQ ad (dg d l)]/\J=af):=by
 refine Fn.cH (cM Tryz.func28) rfl rfl fun H=>?_;refine rg ?_;refine aM ?_;refine ns ?_;refine ab.block ?_;refine' ab.c0 (l':=[(8,.int .i64 ((0):Int)),(0,_),(6,_),(7,_)]) ⟨?jC,rfl,rfl,rfl,trivial⟩ (bu _) ?_;case jC=>exact bP
 refine aj ?_;refine' ab.dF (fun(bC:Nat×Int)=>match bC with|(i,kI)=>⟨[(8,.int .i64 (i:Int))],oQ ad kI::aY,J,i<=l.length/\kI=dg d (l.take i),l.length -i⟩) ⟨0,d⟩ ?hs ?bA
 case hs=>exact⟨cy _,rfl⟩
 case bA=>
  rintro⟨i,kI⟩ hinv;try simp only at hinv
  obtain⟨ao,rfl⟩:=hinv;refine rg ?_;refine I V.aZ ?_;refine ns ?_;refine If (fun dG=>?_) fun dG=>?_
  ·obtain⟨a,off,cells,rfl,lh,ec⟩:=av (by omega);obtain⟨x,U,e4⟩:=ec i (by omega) (by omega);refine c7 ?_;refine aj ?_;refine ab.block ?_;refine rg ?_;refine I V.aW ?_;refine' W.step rfl (Exec.val rfl rfl (gP rfl rfl ?aw (ho (eW rfl) ?ay)) ?_);case aw=>exact lh.cons
   case ay=>first|rfl|assumption
   refine I V.az ?_;refine bi ?_;refine aM ?_;refine I V.aG ?_;refine I V.aZ ?_;refine I V.ag ?_;refine I V.aZ ?_;refine I V.aZ ?_;refine I V.xf ?_;refine I V.pb ?_;refine dC ?_;refine bi ?_;refine I V.bt ?_;refine I V.ag ?_;refine a6 ?_;refine cB ⟨i+1,_⟩ ?_;exact⟨by omega,adX U⟩
  ·refine aj ?_;refine ab.exit ?_;refine'⟨.inl rfl,rfl,_,_,.nil,.cons_cons _ (h5 _),?_⟩;refine⟨?_,rfl⟩;rw[eo (by omega)]
theorem list_fn{ad:Nat}{d:Int}{b:Option Addr}{c:Nat}{l:List Int}(av:dI J (.slice b l.length c) l)(aP:l.length<=1000000):
 Fn (bd Q g0) 29 [.pointer (some ⟨ad,0,none⟩),.slice b l.length c] [oQ ad d] J (fun _ m' af=>m'=[oQ ad (dg d ((l.length:Int)::l))]/\J=af):=by
 refine Fn.cH (cM Tryz.func29) rfl rfl fun H=>?_;refine rg ?_;refine aM ?_;refine jK (e0 Q g0) fun cT=>?_;refine' W.step rfl (Exec.call rfl rfl rfl rfl rfl rfl rfl (bf:=[oQ ad d,(cT,_)]) (bM:=[]) (fN 1 rfl (fN 0 rfl .nil)) trivial (Db (aY:=[(cT,_)]) (l:=[(l.length:Int)]) (jX.own (.head _)) (by simp)) ?_);rintro v m' af hle ⟨rfl,rfl⟩;refine bi ?_;refine aM ?_;refine' W.step rfl (Exec.call rfl rfl rfl rfl rfl rfl rfl (bf:=[oQ ad _]) (bM:=[]) (.refl _) trivial (Db (aY:=[]) (av.iH []) aP) ?_);rintro v m' af hle ⟨rfl,rfl⟩;refine a6 ?_;refine'⟨.inl rfl,rfl,_,_,.nil,bu _,⟨rfl,rfl⟩⟩
def rk(g:bq):Int:=dg 1 (LL g)
def Dy (g:bq):Value:=.tuple #[.int .i64 (if h8 g=0 then rk g else 0),.int .i64 (h8 g)]
theorem adW{x:cR}{d:Int}:dg (dg (dg (dg d [x.k,x.p,x.i]) ((x.ak.length:Int)::x.ak)) ((x.ws.length:Int)::x.ws)) ((x.fF.length:Int)::x.fF)=dg d (B5 x):=by
 unfold B5;rw[Dx,Dx,Dx]
theorem Uv{g:bq}{aT aK:Option Addr}{aQ ci:Nat}(fJ:∀af,J.le af->Fn (bd Q g0) 27 [hb g aT aQ aK ci] [] af (tr (.int .i64 (h8 g)) af))(aq:fH J g aT aQ aK ci):
 Fn (bd Q g0) 10 [hb g aT aQ aK ci] [] J (tr (Dy g) J):=by
 refine Fn.cH (cM Tryz.func10) rfl rfl fun H=>?_;refine rg ?_;refine dK fun bm=>?_;refine aM ?_;refine bi ?_;refine I V.c9 ?_;refine cl (G:=fJ _ (aH.le.refl _)) (h:=?_);rintro v m' dO ch ⟨rfl,rfl,_⟩;refine I V.az ?_;refine bi ?_;refine I V.ag ?_;refine I V.aZ ?_;refine ns ?_;refine If (fun p9=>?_) fun p9=>?_
 ·refine rg ?_;refine aM ?_;refine ns ?_;refine ab.ret ?_;refine c5 ?_;first
   |(refine⟨?_,rfl,ch⟩
     unfold Dy;rw[an p9];rfl)
   |(refine⟨?_,rfl,ch⟩
     unfold Dy;rw[aE (gQ.1 p9),gQ.1 p9];unfold rk LL;rw[show j=g.is.length by omega,tm];rfl)
 ·have dq:=GX (gQ.1 p9);have pC:=aq.mono ch;obtain⟨_,fE⟩:=pC.n.at;obtain⟨_,kx⟩:=pC.i.at;have de:=dq.de;have i2:=dq.i2;refine ln ?_;refine' W.step rfl (.of (eT rfl rfl rfl (aqB Q g0) rfl rfl rfl fun a5=>?_));refine dC ?_;refine bi ?_;refine I V.ba ?_;refine I V.aG ?_;refine I V.ba ?_;refine I V.aG ?_;refine I V.bL ?_;refine jK (e0 Q g0) fun a20=>?_;refine' W.step rfl (Exec.call rfl rfl rfl rfl rfl rfl rfl (bf:=[oQ a5 1,(a20,_)]) (bM:=[_]) (fN 1 rfl (fN 0 rfl (fN 0 rfl .nil))) trivial (Db (aY:=[(a20,_)]) (l:=[g.pl,(g.ns.length:Int)]) (jX.own (.head _)) (by simp)) ?_);rintro v m' af hle ⟨rfl,rfl⟩;refine bi ?_;refine I V.ba ?_;refine I V.aG ?_;refine aM ?_;refine ns ?_;refine ab.block ?_;refine' ab.c0 (l':=[(25,.int .i64 ((0):Int)),(1,_),(5,_),(23,_),(24,_)]) ⟨?Jl,rfl,rfl,rfl,rfl,trivial⟩ (bu _) ?_;case Jl=>exact bP
  refine aj ?_;refine' ab.dF (fun(bC:Nat×Int)=>match bC with|(i,kI)=>⟨[(25,.int .i64 (i:Int))],[oQ a5 kI,(bm,.row (iw g aT aQ aK ci) 27)],dO,i<=g.ns.length/\kI=dg 1 ([g.pl,(g.ns.length:Int)]++(g.ns.take i).flatMap B5),g.ns.length -i⟩) ⟨0,dg 1 [g.pl,(g.ns.length:Int)]⟩ ?hs ?bA
  case hs=>exact⟨cy _,by simp⟩
  case bA=>
   rintro⟨i,kI⟩ hinv;try simp only at hinv
   obtain⟨ao,rfl⟩:=hinv;refine rg ?_;refine I V.aZ ?_;refine ns ?_;refine If (fun nG=>?_) fun nG=>?_
   ·obtain⟨a,off,cells,bz,rfl,mC,ec⟩:=fE (by omega);obtain⟨x,cs,U,gU,_,ei⟩:=ec i (by omega) (by omega);obtain⟨b1,c1,b2,c2,b3,c3,rfl,eG,gM,gA⟩:=ei;rw[cx] at U;obtain⟨cN,dW,lT⟩:=ES (dq.nodes _ (cb U)) dq.ki;refine c7 ?_;refine aj ?_;refine ab.block ?_;refine rg ?_;refine I V.aW ?_;refine I V.c9 ?_;refine' W.step rfl (.of (eT rfl rfl rfl (oB Q g0) rfl rfl rfl fun cT=>?_));refine dC ?_;refine bi ?_;refine I V.ba ?_;refine I V.aG ?_;refine I V.ba ?_;refine I V.aG ?_;refine I V.ba ?_;refine I V.aG ?_;refine jK (e0 Q g0) fun SZ=>?_;refine' W.step rfl (Exec.call rfl rfl rfl rfl rfl rfl rfl (bf:=[oQ a5 _,(SZ,_)]) (bM:=[_,_]) (fN 2 rfl (fN 0 rfl (fN 0 rfl (fN 0 rfl .nil)))) trivial (Db (aY:=[(SZ,_)]) (l:=[x.k,x.p,x.i]) (jX.own (.head _)) (by simp)) ?_);rintro v m' af hle ⟨rfl,rfl⟩;refine bi ?_;refine I V.ba ?_;refine I V.aG ?_;refine' W.step rfl (Exec.call rfl rfl rfl rfl rfl rfl rfl (bf:=[oQ a5 _]) (bM:=[_,_]) (.refl _) trivial (list_fn eG (by omega)) ?_);rintro v m' af hle ⟨rfl,rfl⟩;refine bi ?_;refine I V.ba ?_;refine I V.aG ?_;refine' W.step rfl (Exec.call rfl rfl rfl rfl rfl rfl rfl (bf:=[oQ a5 _]) (bM:=[_,_]) (.refl _) trivial (list_fn gM (by omega)) ?_);rintro v m' af hle ⟨rfl,rfl⟩;refine bi ?_;refine I V.ba ?_;refine I V.aG ?_;refine' W.step rfl (Exec.call rfl rfl rfl rfl rfl rfl rfl (bf:=[oQ a5 _]) (bM:=[_,_]) (.refl _) trivial (list_fn gA (by omega)) ?_);rintro v m' af hle ⟨rfl,rfl⟩;refine bi ?_;refine I V.bt ?_;refine I V.ag ?_;refine a6 ?_;refine cB ⟨i+1,_⟩ ?_ (hm:=.cons_cons _ (.cons _ (.cons_cons _ .slnil)))
    exact⟨by omega,by rw[U3 U,<-gw,Dx _ _ (B5 _),adW]⟩
   ·refine aj ?_;refine ab.exit ?_;refine rg ?_;refine I V.ba ?_;refine I V.aG ?_;refine I V.bL ?_;refine jK (e0 Q g0) fun oJ=>?_;refine' W.step rfl (Exec.call rfl rfl rfl rfl rfl rfl rfl (bf:=[oQ a5 _,(oJ,_)]) (bM:=[_]) (fN 1 rfl (fN 0 rfl (fN 0 rfl .nil))) trivial (Db (aY:=[(oJ,_)]) (l:=[(g.is.length:Int)]) (jX.own (.head _)) (by simp)) ?_);rintro v m' af hle ⟨rfl,rfl⟩;refine bi ?_;refine I V.ba ?_;refine I V.aG ?_;refine aM ?_;refine ns ?_;refine ab.block ?_;refine' ab.c0 (l':=[(55,.int .i64 ((0):Int)),(5,_),(53,_),(54,_)]) ⟨?ap0,rfl,rfl,rfl,trivial⟩ (bu _) ?_;case ap0=>exact bP
    refine aj ?_;refine' ab.dF (fun(bC:Nat×Int)=>match bC with|(j,kI)=>⟨[(55,.int .i64 (j:Int))],[oQ a5 kI,(bm,.row (iw g aT aQ aK ci) 27)],dO,j<=g.is.length/\kI=dg 1 ([g.pl,(g.ns.length:Int)]++g.ns.flatMap B5++[(g.is.length:Int)]++(g.is.take j).flatMap Qr),g.is.length -j⟩) ⟨0,dg (dg 1 ([g.pl,(g.ns.length:Int)]++(g.ns.take i).flatMap B5)) [(g.is.length:Int)]⟩ ?hs ?bA
    case hs=>exact⟨cy _,by rw[show i=g.ns.length by omega,tm,<-Dx];simp⟩
    case bA=>
     rintro⟨j,kI⟩ hinv;try simp only at hinv
     obtain⟨a',rfl⟩:=hinv;refine rg ?_;refine I V.aZ ?_;refine ns ?_;refine If (fun acu=>?_) fun acu=>?_
     ·obtain⟨a,off,cells,bz,rfl,mC,ec⟩:=kx (by omega);obtain⟨y,cs,ai,gU,_,rfl⟩:=ec j (by omega) (by omega);rw[cx] at ai;refine c7 ?_;refine aj ?_;refine ab.block ?_;refine rg ?_;refine I V.aW ?_;refine I V.c9 ?_;refine' W.step rfl (.of (eT rfl rfl rfl (aaG Q g0) rfl rfl rfl fun a9=>?_));refine dC ?_;refine bi ?_;refine I V.ba ?_;refine I V.aG ?_;refine I V.ba ?_;refine I V.aG ?_;refine jK (e0 Q g0) fun wV=>?_;refine' W.step rfl (Exec.call rfl rfl rfl rfl rfl rfl rfl (bf:=[oQ a5 _,(wV,_)]) (bM:=[_,_]) (fN 2 rfl (fN 0 rfl (fN 0 rfl (fN 0 rfl .nil)))) trivial (Db (aY:=[(wV,_)]) (l:=[y.1,y.2]) (jX.own (.head _)) (by simp)) ?_);rintro v m' af hle ⟨rfl,rfl⟩;refine bi ?_;refine I V.bt ?_;refine I V.ag ?_;refine a6 ?_;refine cB ⟨j+1,_⟩ ?_ (hm:=.cons_cons _ (.cons _ (.cons_cons _ .slnil)));exact⟨by omega,by rw[U3 ai,<-gw,Dx _ _ (Qr _)];rfl⟩
     ·refine aj ?_;refine ab.exit ?_;refine rg ?_;refine I V.aG ?_;refine aM ?_;refine ns ?_;refine ab.ret ?_;refine c5 ?_;first
       |(refine⟨?_,rfl,ch⟩
         unfold Dy;rw[an p9];rfl)
       |(refine⟨?_,rfl,ch⟩
         unfold Dy;rw[aE (gQ.1 p9),gQ.1 p9];unfold rk LL;rw[show j=g.is.length by omega,tm];rfl)
end
theorem Acc.uL{e:TypeId}{sz k ft:Nat}{v:Value}{cells cells':List Value}{aY:aN}(h:Acc e sz v k cells aY)(aO:k=ft)(aC:cells=cells'):Acc e sz v ft cells' aY:=by subst aO;subst aC;exact h
theorem Acc.addr{e:TypeId}{sz k n c:Nat}{b:Option Addr}{cells:List Value}{aY:aN}(h:Acc e sz (.slice b n c) k cells aY):addrEq b b=true:=by
 cases h<;>simp[addrEq]
section
variable {Q:dD Tryz.prog}{g0:Nat}{J:aH}
end
end
end Go.Opn

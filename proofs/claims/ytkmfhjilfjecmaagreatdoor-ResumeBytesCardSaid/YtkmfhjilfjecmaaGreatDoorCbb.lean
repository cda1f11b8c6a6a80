/- A part of the proof of ResumeBytes. -/
import Derived.Test.YtkmfhjilfjecmaaGreatDoorCba
set_option maxRecDepth 100000
set_option maxHeartbeats 4000000
set_option linter.unusedVariables false
set_option linter.unusedSimpArgs false
namespace Go.Opn
noncomputable section
open Go.Cre Go.RowKit Go.Proofs
theorem Na{P:Int->Bool}{l:List Int}{i:Nat}{x:Int}(U:l[((i:Nat):Int).toNat]?=some x)(h:(l.take i).any P=false)(au:P x=false):(l.take (i+1)).any P=false:=by
 rw[cx] at U;rw[nY,U,List.any_append,h];simp[au]
theorem J4{P:Int->Bool}{l:List Int}{i:Nat}{x:Int}(U:l[((i:Nat):Int).toNat]?=some x)(au:P x=true):l.any P=true:=by
 rw[JE];exact⟨x,cb U,au⟩
section
variable {Q:dD Tryz.prog}{g0:Nat}{J:aH}
def hG(cm ao:Int)(n:Int):Bool:=decide (n<cm)||decide (ao<n)
theorem akp{gn:aN}{b:Option Addr}{c:Nat}{l:List Int}{zd:FuncId}{cap:Array Value}{P:Int->Bool}(av:jX gn J b l)(aP:l.length<=1000000)
 (au:∀x,Fn (bd Q g0) zd (.int .i64 x::cap.toList) gn J (fun u m' af=>u=.bool (P x)/\m'=gn/\J=af)):
 Fn (bd Q g0) 108 [.slice b l.length c,.func (.func zd) #[] cap] gn J (fun u m' af=>∃k,u=.int .i64 k/\(0<=k↔l.any P=true)/\m'=gn/\J=af):=by
 refine Fn.cH (cM Tryz.func108) rfl rfl fun H=>?_;refine rg ?_;refine I V.az ?_;refine bi ?_;refine aM ?_;refine ns ?_;refine ab.block ?_;refine' ab.c0 (l':=[(8,.int .i64 ((0):Int)),(0,_),(1,_),(7,_)]) ⟨?jC,rfl,rfl,rfl,trivial⟩ (bu _) ?_;case jC=>exact bP
 refine aj ?_;refine' ab.dF (fun(i:Nat)=>⟨[(8,.int .i64 (i:Int))],gn,J,i<=l.length/\(l.take i).any P=false,l.length -i⟩) (0) ?hs ?bA;case hs=>exact⟨cy _,rfl⟩
 case bA=>
  rintro i hinv;try simp only at hinv
  obtain⟨ao,ry⟩:=hinv;refine rg ?_;refine I V.aZ ?_;refine ns ?_;refine If (fun dG=>?_) fun dG=>?_
  ·obtain⟨a,off,cells,rfl,lh,ec⟩:=av (by omega);obtain⟨x,U,e4⟩:=ec i (by omega) (by omega);refine c7 ?_;refine aj ?_;refine ab.block ?_;refine rg ?_;refine aM ?_;refine bi ?_;refine aM ?_;refine I V.aW ?_;refine' W.step rfl (Exec.val rfl rfl (gP rfl rfl ?aw (ho (eW rfl) ?ay)) ?_);case aw=>exact lh
   case ay=>first|rfl|assumption
   refine' W.step rfl (Exec.call rfl rfl rfl rfl rfl rfl rfl (bf:=gn) (bM:=[]) (by simp) trivial (au x) ?_);rintro v m' af hle ⟨rfl,rfl,rfl⟩;rw[gj];refine ns ?_;refine If (fun kN=>?_) fun kN=>?_
   ·refine rg ?_;refine aM ?_;refine ns ?_;refine ab.ret ?_;refine'⟨.inr rfl,rfl,_,_,.tmp rfl .nil,bu _,?_⟩;first
      |exact⟨_,rfl,⟨fun _=>J4 U (by simpa using kN),fun _=>by omega⟩,rfl,rfl⟩
      |(refine⟨_,rfl,⟨fun q=>absurd q (by decide),fun q=>?_⟩,rfl,rfl⟩
        rw[eo (by omega)] at ry;rw[ry] at q;cases q)
   ·refine aj ?_;refine ab.skip ?_;refine rg ?_;refine I V.bt ?_;refine I V.ag ?_;refine a6 ?_;refine cB (i+1) ?_;exact⟨by omega,Na U ry (by simpa using kN)⟩
  ·refine aj ?_;refine ab.exit ?_;refine rg ?_;refine I V.az ?_;refine ns ?_;refine ab.ret ?_;refine'⟨.inr rfl,rfl,_,_,.tmp rfl .nil,bu _,?_⟩;first
    |exact⟨_,rfl,⟨fun _=>J4 U (by simpa using kN),fun _=>by omega⟩,rfl,rfl⟩
    |(refine⟨_,rfl,⟨fun q=>absurd q (by decide),fun q=>?_⟩,rfl,rfl⟩
      rw[eo (by omega)] at ry;rw[ry] at q;cases q)
theorem adh{gn:aN}{b:Option Addr}{c:Nat}{l:List Int}{zd:FuncId}{cap:Array Value}{P:Int->Bool}(av:jX gn J b l)(aP:l.length<=1000000)
 (au:∀x,Fn (bd Q g0) zd (.int .i64 x::cap.toList) gn J (fun u m' af=>u=.bool (P x)/\m'=gn/\J=af)):
 Fn (bd Q g0) 95 [.slice b l.length c,.func (.func zd) #[] cap] gn J (fun u m' af=>u=.bool (l.any P)/\m'=gn/\J=af):=by
 refine Fn.cH (cM Tryz.func95) rfl rfl fun H=>?_;refine rg ?_;refine I V.az ?_;refine bi ?_;refine aM ?_;refine' W.step rfl (Exec.call rfl rfl rfl rfl rfl rfl rfl (bf:=gn) (bM:=[]) (by simp) trivial (akp av aP au) ?_);rintro v m' af hle ⟨k,rfl,aO,rfl,rfl⟩;rw[gj];refine I V.aZ ?_;refine I V.az ?_;refine ns ?_;refine ab.ret ?_;refine'⟨.inr rfl,rfl,_,_,.tmp rfl .nil,bu _,?_⟩;refine⟨cD Value.bool ?_,rfl,rfl⟩;rw[qT,l6];exact aO
theorem ap'{a3 a4:Nat}{cm ao x:Int}{aY:aN}:Fn (bd Q g0) 96 [.int .i64 x,.pointer (some ⟨a3,0,none⟩),.pointer (some ⟨a4,0,none⟩)] ((a4,.row [.int .i64 ao] 3)::(a3,.row [.int .i64 cm] 3)::aY) J (fun u m' af=>u=.bool (hG cm ao x)/\m'=((a4,.row [.int .i64 ao] 3)::(a3,.row [.int .i64 cm] 3)::aY)/\J=af):=by
 refine Fn.cH (cM Tryz.func96) rfl rfl fun H=>?_;refine rg ?_;refine I V.az ?_;refine bi ?_;refine I V.ag ?_;refine I V.aG ?_;refine I V.aZ ?_;refine I V.ag ?_;refine dr 8 (fun n'=>?_) fun n'=>?_
 ·refine ah ?_;refine ah ?_;refine ah ?_;refine I V.aU ?_;refine I V.az ?_;refine ns ?_;refine ab.ret ?_;refine'⟨.inr rfl,rfl,_,_,.tmp rfl .nil,bu _,?_⟩;refine⟨cD Value.bool ?_,rfl,rfl⟩;rw[show hG cm ao x=(decide (x<cm)||decide (ao<x)) from rfl];first|(rw[y4 n'];rfl)|(rw[GA n'];rfl)
 ·refine aX V.ag ?_;refine aX V.aG ?_;refine aX V.aZ ?_;refine I V.aU ?_;refine I V.az ?_;refine ns ?_;refine ab.ret ?_;refine'⟨.inr rfl,rfl,_,_,.tmp rfl .nil,bu _,?_⟩;refine⟨cD Value.bool ?_,rfl,rfl⟩;rw[show hG cm ao x=(decide (x<cm)||decide (ao<x)) from rfl];first|(rw[y4 n'];rfl)|(rw[GA n'];rfl)
theorem Jr{b:Option Addr}{c:Nat}{l:List Int}{cm ao:Int}{aY:aN}(av:jX aY J b l)(aP:l.length<=1000000):Fn (bd Q g0) 82 [.int .i64 cm,.int .i64 ao,.slice b l.length c] aY J (fun u m' af=>u=.int .i64 (if l.any (hG cm ao)=true then 2 else 0)/\m'=[]/\J=af):=by
 refine Fn.cH (cM Tryz.func82) rfl rfl fun H=>?_;refine rg ?_;refine dK fun a3=>?_;refine dK fun a4=>?_;refine I V.az ?_;refine bi ?_;refine aM ?_;refine' W.step rfl (Exec.call rfl rfl rfl rfl rfl rfl rfl (bf:=(a4,.row [.int .i64 ao] 3)::(a3,.row [.int .i64 cm] 3)::aY) (bM:=[]) (by rw[gj];exact .refl _) trivial (adh (P:=hG cm ao) (fun h=>by obtain⟨a,off,cells,aa,ae,aF⟩:=av h;exact⟨a,off,cells,aa,ae.cons.cons,aF⟩) aP (fun x=>ap')) ?_);rintro v m' af hle ⟨rfl,rfl,rfl⟩;rw[gj];refine ns ?_;refine If (fun dG=>?_) fun dG=>?_
 ·refine rg ?_;refine I V.az ?_;refine ns ?_;refine ab.ret ?_;refine c5 ?_;first
   |exact⟨by rw[aE dG];rfl,rfl,rfl⟩
   |exact⟨by rw[an (by simp[dG])];rfl,rfl,rfl⟩
 ·refine aj ?_;refine ab.skip ?_;refine rg ?_;refine I V.az ?_;refine ns ?_;refine ab.ret ?_;refine c5 ?_;first
   |exact⟨by rw[aE dG];rfl,rfl,rfl⟩
   |exact⟨by rw[an (by simp[dG])];rfl,rfl,rfl⟩
end
theorem yO{l:List Int}{cm ao:Int}:l.any (hG cm ao)=true↔∃w∈l,w<cm\/ao<w:=by
 rw[JE];constructor
 ·rintro⟨w,aa,ae⟩;exact⟨w,aa,by simpa[hG] using ae⟩
 ·rintro⟨w,aa,ae⟩;exact⟨w,aa,by simpa[hG] using ae⟩
section
variable {Q:dD Tryz.prog}{g0:Nat}{J:aH}
abbrev aav(g:bq)(aT:Option Addr)(aQ:Nat)(aK:Option Addr)(ci:Nat)(je jd gY:Value):List Value:=[.int .i64 g.pl,.slice aT g.ns.length aQ,.slice aK g.is.length ci,je,jd,gY]
abbrev jT(db:Nat)(g:bq)(aT:Option Addr)(aQ:Nat)(aK:Option Addr)(ci:Nat)(je jd gY:Value):Nat×cC:=(db,.row (aav g aT aQ aK ci je jd gY) 130)
abbrev B6(x:cR)(b1:Option Addr)(c1:Nat)(b2:Option Addr)(c2:Nat)(b3:Option Addr)(c3:Nat):Value:=.agg #[.int .i64 x.k,.int .i64 x.p,.int .i64 x.i,.slice b1 x.ak.length c1,.slice b2 x.ws.length c2,.slice b3 x.fF.length c3]
theorem acS{db:Nat}{g:bq}{aT aK:Option Addr}{aQ ci:Nat}{je jd gY:Value}{x:cR}{b1 b2 b3:Option Addr}{c1 c2 c3:Nat}(ae:dI J (.slice b2 x.ws.length c2) x.ws)(aO:x.k=1):
 Fn (bd Q g0) 88 [.pointer (some ⟨db,0,none⟩),B6 x b1 c1 b2 c2 b3 c3] [jT db g aT aQ aK ci je jd gY] J (fun u m' af=>u=.int .i64 (eu g x)/\m'=[jT db g aT aQ aK ci je jd gY]/\J=af):=by
 refine Fn.cH (cM Tryz.func88) rfl rfl fun H=>?_;refine rg ?_;refine dK fun a3=>?_;refine I V.az ?_;refine a6 ?_;refine fR [3] ?_;refine aj ?_;refine' ab.hl 0 [(39,.bool (decide ((x.p≠0\/x.i≠0\/0<x.fF.length\/x.ak.length<1\/60<x.ak.length\/x.ws.length≠x.ak.length))))] ?mW ?n7;case mW=>
  refine ab.region ?_;refine I V.ba ?_;refine I V.aG ?_;refine I V.aZ ?_;refine I V.ag ?_;refine dr 8 (fun n'=>?_) fun n'=>?_
  ·refine ah ?_;refine ah ?_;refine ah ?_;refine I V.aU ?_;refine I V.ag ?_;refine ah ?_;refine ah ?_;refine ah ?_;refine ah ?_;refine I V.aU ?_;refine I V.ag ?_;refine ah ?_;refine ah ?_;refine ah ?_;refine ah ?_;refine I V.aU ?_;refine I V.ag ?_;refine ah ?_;refine ah ?_;refine ah ?_;refine ah ?_;refine I V.aU ?_;refine I V.ag ?_;refine ah ?_;refine ah ?_;refine ah ?_;refine ah ?_;refine ah ?_;refine ah ?_;refine ah ?_;refine I V.aU ?_;refine a6 ?_;exact ce
  ·refine aX V.ba ?_;refine aX V.aG ?_;refine aX V.aZ ?_;refine I V.aU ?_;refine I V.ag ?_;refine dr 13 (fun xn=>?_) fun xn=>?_
   ·refine ah ?_;refine ah ?_;refine ah ?_;refine ah ?_;refine I V.aU ?_;refine I V.ag ?_;refine ah ?_;refine ah ?_;refine ah ?_;refine ah ?_;refine I V.aU ?_;refine I V.ag ?_;refine ah ?_;refine ah ?_;refine ah ?_;refine ah ?_;refine I V.aU ?_;refine I V.ag ?_;refine ah ?_;refine ah ?_;refine ah ?_;refine ah ?_;refine ah ?_;refine ah ?_;refine ah ?_;refine I V.aU ?_;refine a6 ?_;exact ce
   ·refine aX V.ba ?_;refine aX V.aG ?_;refine aX V.bL ?_;refine aX V.aZ ?_;refine I V.aU ?_;refine I V.ag ?_;refine dr 19 (fun A8=>?_) fun A8=>?_
    ·refine ah ?_;refine ah ?_;refine ah ?_;refine ah ?_;refine I V.aU ?_;refine I V.ag ?_;refine ah ?_;refine ah ?_;refine ah ?_;refine ah ?_;refine I V.aU ?_;refine I V.ag ?_;refine ah ?_;refine ah ?_;refine ah ?_;refine ah ?_;refine ah ?_;refine ah ?_;refine ah ?_;refine I V.aU ?_;refine a6 ?_;exact ce
    ·refine aX V.ba ?_;refine aX V.aG ?_;refine aX V.bL ?_;refine aX V.aZ ?_;refine I V.aU ?_;refine I V.ag ?_;refine dr 25 (fun A9=>?_) fun A9=>?_
     ·refine ah ?_;refine ah ?_;refine ah ?_;refine ah ?_;refine I V.aU ?_;refine I V.ag ?_;refine ah ?_;refine ah ?_;refine ah ?_;refine ah ?_;refine ah ?_;refine ah ?_;refine ah ?_;refine I V.aU ?_;refine a6 ?_;exact ce
     ·refine aX V.ba ?_;refine aX V.aG ?_;refine aX V.bL ?_;refine aX V.aZ ?_;refine I V.aU ?_;refine I V.ag ?_;refine dr 31 (fun agr=>?_) fun agr=>?_
      ·
        refine ah ?_;refine ah ?_;refine ah ?_;refine ah ?_;refine ah ?_;refine ah ?_;refine ah ?_;refine I V.aU ?_;refine a6 ?_;exact ce
      ·
        refine aX V.ba ?_;refine aX V.aG ?_;refine aX V.bL ?_;refine aX V.ba ?_;refine aX V.aG ?_;refine aX V.bL ?_;refine aX V.aZ ?_;refine I V.aU ?_;refine a6 ?_;exact ce
 case n7=>
  refine aj ?_;refine If (fun k7=>?_) fun k7=>?_
  ·refine rg ?_;refine I V.az ?_;refine ns ?_;refine ab.ret ?_;refine'⟨.inr rfl,rfl,_,_,.tmp rfl .nil,.cons _ (.refl _),?_⟩;first
    |(refine⟨?_,rfl,rfl⟩
      unfold eu;rw[aE aO,aE k7];rfl)
    |(refine⟨?_,rfl,rfl⟩
      unfold eu;rw[aE aO,an k7];by_cases q:x.ws.any (hG 1 1000)=true
      ·rw[aE q,aE (yO.1 q)];rfl
      ·rw[an q,an (fun k=>q (yO.2 k))];rfl)
  ·refine aj ?_;refine ab.skip ?_;refine rg ?_;refine I V.ba ?_;refine I V.aG ?_;refine' W.step rfl (Exec.call rfl rfl rfl rfl rfl rfl rfl (bf:=[]) (bM:=[_,_]) (.refl _) trivial (Jr (ae.iH []) (by omega)) ?_);rintro v m' dO hle ⟨rfl,rfl,rfl⟩;refine I V.az ?_;refine ns ?_;refine ab.ret ?_;refine'⟨.inr rfl,rfl,_,_,.tmp rfl .nil,.cons _ (.refl _),?_⟩;first
    |(refine⟨?_,rfl,rfl⟩
      unfold eu;rw[aE aO,aE k7];rfl)
    |(refine⟨?_,rfl,rfl⟩
      unfold eu;rw[aE aO,an k7];by_cases q:x.ws.any (hG 1 1000)=true
      ·rw[aE q,aE (yO.1 q)];rfl
      ·rw[an q,an (fun k=>q (yO.2 k))];rfl)
theorem vc{cm ao n:Int}:([n].any (hG cm ao)=true)↔(n<cm\/ao<n):=by simp[hG]
theorem aez{db:Nat}{g:bq}{aT aK:Option Addr}{aQ ci:Nat}{je jd gY:Value}{x:cR}{b1 b2 b3:Option Addr}{c1 c2 c3:Nat}(aF:dI J (.slice b3 x.fF.length c3) x.fF)(aO:x.k=3)(au:g.pl<=4)(bb:addrEq b1 b1=true)(a7:addrEq b2 b2=true)(b8:addrEq b3 b3=true):
 Fn (bd Q g0) 90 [.pointer (some ⟨db,0,none⟩),B6 x b1 c1 b2 c2 b3 c3] [jT db g aT aQ aK ci je jd gY] J (fun u m' af=>u=.int .i64 (eu g x)/\m'=[jT db g aT aQ aK ci je jd gY]/\J=af):=by
 refine Fn.cH (cM Tryz.func90) rfl rfl fun H=>?_;refine rg ?_;refine dK fun a3=>?_;refine I V.az ?_;refine a6 ?_;refine fR [0,3] ?_;refine aj ?_;refine' ab.hl 1 [(35,.bool (decide ((x.p≠0\/x.i≠0\/0<x.ak.length\/0<x.ws.length\/(x.fF.length:Int)≠g.pl))))] ?mW ?n7;case mW=>
  refine ab.DF [] rfl (by kernel_rfl) (bc:=[.val 0,.val 1,.val 2,.val 3,.val 4,.val 5,.val 6,.val 7,.val 8,.val 9,.val 10,.val 11,.val 12,.val 13,.val 14,.val 15,.val 16,.val 17,.val 18,.val 19,.val 20,.val 21,.val 22,.val 23,.val 24,.val 25,.val 26,.val 27,.val 28,.val 29,.val 30]) (by kernel_rfl) ?_;refine dk rfl V.ba ?_;refine dk rfl V.aG ?_;refine dk rfl V.aZ ?_;refine dk rfl V.ag ?_;refine ts 8 (fun n'=>?_) fun n'=>?_
  ·refine cg rfl ?_;refine cg rfl ?_;refine cg rfl ?_;refine dk rfl V.aU ?_;refine dk rfl V.ag ?_;refine cg rfl ?_;refine cg rfl ?_;refine cg rfl ?_;refine cg rfl ?_;refine dk rfl V.aU ?_;refine dk rfl V.ag ?_;refine cg rfl ?_;refine cg rfl ?_;refine cg rfl ?_;refine cg rfl ?_;refine dk rfl V.aU ?_;refine dk rfl V.ag ?_;refine cg rfl ?_;refine cg rfl ?_;refine cg rfl ?_;refine cg rfl ?_;refine cg rfl ?_;refine cg rfl ?_;refine cg rfl ?_;refine cg rfl ?_;refine cg rfl ?_;refine dk rfl V.aU ?_;refine dv.nil ?_;exact ce
  ·refine df rfl V.ba ?_;refine df rfl V.aG ?_;refine df rfl V.aZ ?_;refine dk rfl V.aU ?_;refine dk rfl V.ag ?_;refine ts 13 (fun xn=>?_) fun xn=>?_
   ·refine cg rfl ?_;refine cg rfl ?_;refine cg rfl ?_;refine cg rfl ?_;refine dk rfl V.aU ?_;refine dk rfl V.ag ?_;refine cg rfl ?_;refine cg rfl ?_;refine cg rfl ?_;refine cg rfl ?_;refine dk rfl V.aU ?_;refine dk rfl V.ag ?_;refine cg rfl ?_;refine cg rfl ?_;refine cg rfl ?_;refine cg rfl ?_;refine cg rfl ?_;refine cg rfl ?_;refine cg rfl ?_;refine cg rfl ?_;refine cg rfl ?_;refine dk rfl V.aU ?_;refine dv.nil ?_;exact ce
   ·refine df rfl V.ba ?_;refine df rfl V.aG ?_;refine df rfl V.bL ?_;refine df rfl V.aZ ?_;refine dk rfl V.aU ?_;refine dk rfl V.ag ?_;refine ts 19 (fun A8=>?_) fun A8=>?_
    ·refine cg rfl ?_;refine cg rfl ?_;refine cg rfl ?_;refine cg rfl ?_;refine dk rfl V.aU ?_;refine dk rfl V.ag ?_;refine cg rfl ?_;refine cg rfl ?_;refine cg rfl ?_;refine cg rfl ?_;refine cg rfl ?_;refine cg rfl ?_;refine cg rfl ?_;refine cg rfl ?_;refine cg rfl ?_;refine dk rfl V.aU ?_;refine dv.nil ?_;exact ce
    ·refine df rfl V.ba ?_;refine df rfl V.aG ?_;refine df rfl V.bL ?_;refine df rfl V.aZ ?_;refine dk rfl V.aU ?_;refine dk rfl V.ag ?_;refine ts 25 (fun A9=>?_) fun A9=>?_
     ·refine cg rfl ?_;refine cg rfl ?_;refine cg rfl ?_;refine cg rfl ?_;refine cg rfl ?_;refine cg rfl ?_;refine cg rfl ?_;refine cg rfl ?_;refine cg rfl ?_;refine dk rfl V.aU ?_;refine dv.nil ?_;exact ce
     ·refine df rfl V.ba ?_;refine df rfl V.aG ?_;refine df rfl V.bL ?_;refine df rfl V.ag ?_;refine df rfl V.pb ?_;refine df rfl V.ba ?_;refine df rfl V.ba ?_;refine df rfl V.aG ?_;refine df rfl V.aZ ?_;refine dk rfl V.aU ?_;refine dv.nil ?_;exact ce
 case n7=>
  refine aj ?_;refine If (fun hX=>?_) fun hX=>?_
  ·refine rg ?_;refine I V.az ?_;refine ns ?_;refine ab.ret ?_;refine'⟨.inr rfl,rfl,_,_,.tmp rfl .nil,.cons _ (.refl _),?_⟩;first
    |(refine⟨?_,rfl,rfl⟩
      unfold eu;rw[an (show ¬x.k=1 by omega),an (show ¬x.k=2 by omega),aE aO,aE hX];rfl)
    |(refine⟨?_,rfl,rfl⟩
      unfold eu;rw[an (show ¬x.k=1 by omega),an (show ¬x.k=2 by omega),aE aO,an hX];by_cases q:x.fF.any (hG (-1000000) 1000000)=true
      ·rw[aE q,aE (yO.1 q)];rfl
      ·rw[an q,an (fun k=>q (yO.2 k))];rfl)
  ·refine aj ?_;refine ab.skip ?_;refine rg ?_;refine I V.ba ?_;refine I V.aG ?_;refine' W.step rfl (Exec.call rfl rfl rfl rfl rfl rfl rfl (bf:=[]) (bM:=[_,_]) (.refl _) trivial (Jr (aF.iH []) (by omega)) ?_);rintro v m' dO hle ⟨rfl,rfl,rfl⟩;refine I V.az ?_;refine ns ?_;refine ab.ret ?_;refine'⟨.inr rfl,rfl,_,_,.tmp rfl .nil,.cons _ (.refl _),?_⟩;first
    |(refine⟨?_,rfl,rfl⟩
      unfold eu;rw[an (show ¬x.k=1 by omega),an (show ¬x.k=2 by omega),aE aO,aE hX];rfl)
    |(refine⟨?_,rfl,rfl⟩
      unfold eu;rw[an (show ¬x.k=1 by omega),an (show ¬x.k=2 by omega),aE aO,an hX];by_cases q:x.fF.any (hG (-1000000) 1000000)=true
      ·rw[aE q,aE (yO.1 q)];rfl
      ·rw[an q,an (fun k=>q (yO.2 k))];rfl)
theorem alk{db:Nat}{g:bq}{aT aK:Option Addr}{aQ ci:Nat}{je jd gY:Value}{x:cR}{b1 b2 b3:Option Addr}{c1 c2 c3:Nat}(aO:x.k=2)(rL:1<=g.pl)(au:g.pl<=4)(ao:g.is.length<=200)(np:addrEq aK aK=true):
 Fn (bd Q g0) 89 [.pointer (some ⟨db,0,none⟩),B6 x b1 c1 b2 c2 b3 c3] [jT db g aT aQ aK ci je jd gY] J (fun u m' af=>u=.int .i64 (eu g x)/\m'=[jT db g aT aQ aK ci je jd gY]/\J=af):=by
 refine Fn.cH (cM Tryz.func89) rfl rfl fun H=>?_;refine rg ?_;refine dK fun a3=>?_;refine I V.az ?_;refine a6 ?_;refine fR [0,3] ?_;refine aj ?_;refine' ab.hl 0 [(27,.bool (decide ((0<x.fF.length\/0<x.ws.length\/x.ak.length<1\/10<x.ak.length))))] ?mW ?n7;case mW=>
  refine ab.region ?_;refine I V.ba ?_;refine I V.aG ?_;refine I V.bL ?_;refine I V.aZ ?_;refine I V.ag ?_;refine dr 10 (fun ags=>?_) fun ags=>?_
  ·refine ah ?_;refine ah ?_;refine ah ?_;refine ah ?_;refine I V.aU ?_;refine I V.ag ?_;refine ah ?_;refine ah ?_;refine ah ?_;refine ah ?_;refine I V.aU ?_;refine I V.ag ?_;refine ah ?_;refine ah ?_;refine ah ?_;refine ah ?_;refine I V.aU ?_;refine a6 ?_;exact ce
  ·refine aX V.ba ?_;refine aX V.aG ?_;refine aX V.bL ?_;refine aX V.aZ ?_;refine I V.aU ?_;refine I V.ag ?_;refine dr 16 (fun Oj=>?_) fun Oj=>?_
   ·refine ah ?_;refine ah ?_;refine ah ?_;refine ah ?_;refine I V.aU ?_;refine I V.ag ?_;refine ah ?_;refine ah ?_;refine ah ?_;refine ah ?_;refine I V.aU ?_;refine a6 ?_;exact ce
   ·refine aX V.ba ?_;refine aX V.aG ?_;refine aX V.bL ?_;refine aX V.aZ ?_;refine I V.aU ?_;refine I V.ag ?_;refine dr 22 (fun agq=>?_) fun agq=>?_
    ·refine ah ?_;refine ah ?_;refine ah ?_;refine ah ?_;refine I V.aU ?_;refine a6 ?_;exact ce
    ·refine aX V.ba ?_;refine aX V.aG ?_;refine aX V.bL ?_;refine aX V.aZ ?_;refine I V.aU ?_;refine a6 ?_;exact ce
 case n7=>
  refine aj ?_;refine If (fun jL=>?_) fun jL=>?_
  ·refine rg ?_;refine I V.az ?_;refine ns ?_;refine ab.ret ?_;refine'⟨.inr rfl,rfl,_,_,.tmp rfl .nil,.cons _ (.refl _),?_⟩;first
    |(refine⟨?_,rfl,rfl⟩
      unfold eu;rw[an (show ¬x.k=1 by omega),aE aO,aE jL];rfl)
    |(refine⟨?_,rfl,rfl⟩
      unfold eu;rw[an (show ¬x.k=1 by omega),aE aO,an jL];by_cases q:[x.p].any (hG 0 (g.pl -1))=true
      ·rw[aE q,aE (by rw[vc] at q;omega)];rfl
      ·rw[an q] at k7;exact absurd rfl k7)
    |(refine⟨?_,rfl,rfl⟩
      unfold eu;rw[an (show ¬x.k=1 by omega),aE aO,an jL];by_cases q:[x.p].any (hG 0 (g.pl -1))=true
      ·rw[aE q] at k7;exact absurd (by decide) k7
      ·by_cases a7:[x.i].any (hG 0 ((g.is.length:Int) -1))=true
       ·rw[aE a7,aE (by rw[vc] at a7;omega)];rfl
       ·rw[an a7,an (by rw[vc] at q a7;omega)];rfl)
  ·refine aj ?_;refine ab.skip ?_;refine aj ?_;refine ab.draw rfl (by kernel_rfl) (bc:=[.val 0,.val 1,.val 2,.val 3,.val 4,.val 5,.val 6,.val 7,.gk 8,.cA [7,6,5,4,3,2,1,0],.bR 9,.val 10]) (by kernel_rfl) ?_;refine cq ?_;refine al rfl V.aG ?_;refine al rfl V.bt ?_;refine al rfl V.ba ?_;refine al rfl V.aG ?_;refine a8.buildSlice rfl rfl rfl rfl rfl rfl (e0 Q g0) rfl rfl rfl fun AE=>?_;refine a8.cA eX ?_;refine' a8.call rfl rfl rfl rfl rfl rfl rfl rfl rfl rfl (bf:=[(AE,_)]) (bM:=[_,_]) (.refl _) trivial (Jr (l:=[x.p]) (jX.own (.head _)) (by simp)) ?_;rintro v m' dO hle ⟨rfl,rfl,rfl⟩;refine al rfl V.az ?_;refine a8.nil ?_;refine rg ?_;refine I V.ag ?_;refine I V.aZ ?_;refine ns ?_;refine If (fun k7=>?_) fun k7=>?_
   ·refine rg ?_;refine aM ?_;refine ns ?_;refine ab.ret ?_;refine'⟨.inr rfl,rfl,_,_,.tmp rfl .nil,.cons _ (.refl _),?_⟩;first
      |(refine⟨?_,rfl,rfl⟩
        unfold eu;rw[an (show ¬x.k=1 by omega),aE aO,aE jL];rfl)
      |(refine⟨?_,rfl,rfl⟩
        unfold eu;rw[an (show ¬x.k=1 by omega),aE aO,an jL];by_cases q:[x.p].any (hG 0 (g.pl -1))=true
        ·rw[aE q,aE (by rw[vc] at q;omega)];rfl
        ·rw[an q] at k7;exact absurd rfl k7)
      |(refine⟨?_,rfl,rfl⟩
        unfold eu;rw[an (show ¬x.k=1 by omega),aE aO,an jL];by_cases q:[x.p].any (hG 0 (g.pl -1))=true
        ·rw[aE q] at k7;exact absurd (by decide) k7
        ·by_cases a7:[x.i].any (hG 0 ((g.is.length:Int) -1))=true
         ·rw[aE a7,aE (by rw[vc] at a7;omega)];rfl
         ·rw[an a7,an (by rw[vc] at q a7;omega)];rfl)
   ·refine aj ?_;refine ab.skip ?_;refine aj ?_;refine ab.draw rfl (by kernel_rfl) (bc:=[.val 0,.val 1,.val 2,.val 3,.val 4,.val 5,.val 6,.val 7,.val 8,.gk 9,.cA [8,7,6,5,4,3,2,1,0],.bR 10,.val 11]) (by kernel_rfl) ?_;refine cq ?_;refine al rfl V.aG ?_;refine al rfl V.bL ?_;refine al rfl V.bt ?_;refine al rfl V.ba ?_;refine al rfl V.aG ?_;refine a8.buildSlice rfl rfl rfl rfl rfl rfl (e0 Q g0) rfl rfl rfl fun oJ=>?_;refine a8.cA eX ?_;refine' a8.call rfl rfl rfl rfl rfl rfl rfl rfl rfl rfl (bf:=[(oJ,_)]) (bM:=[_,_]) (.refl _) trivial (Jr (l:=[x.i]) (jX.own (.head _)) (by simp)) ?_;rintro v m' dO hle ⟨rfl,rfl,rfl⟩;refine al rfl V.az ?_;refine a8.nil ?_;refine aj ?_;refine ab.ret ?_;refine'⟨.inr rfl,rfl,_,_,.tmp rfl .nil,.cons _ (.refl _),?_⟩;first
      |(refine⟨?_,rfl,rfl⟩
        unfold eu;rw[an (show ¬x.k=1 by omega),aE aO,aE jL];rfl)
      |(refine⟨?_,rfl,rfl⟩
        unfold eu;rw[an (show ¬x.k=1 by omega),aE aO,an jL];by_cases q:[x.p].any (hG 0 (g.pl -1))=true
        ·rw[aE q,aE (by rw[vc] at q;omega)];rfl
        ·rw[an q] at k7;exact absurd rfl k7)
      |(refine⟨?_,rfl,rfl⟩
        unfold eu;rw[an (show ¬x.k=1 by omega),aE aO,an jL];by_cases q:[x.p].any (hG 0 (g.pl -1))=true
        ·rw[aE q] at k7;exact absurd (by decide) k7
        ·by_cases a7:[x.i].any (hG 0 ((g.is.length:Int) -1))=true
         ·rw[aE a7,aE (by rw[vc] at a7;omega)];rfl
         ·rw[an a7,an (by rw[vc] at q a7;omega)];rfl)
theorem QS{db:Nat}{g:bq}{aT aK:Option Addr}{aQ ci:Nat}{je jd gY:Value}{x:cR}{b1 b2 b3:Option Addr}{c1 c2 c3:Nat}{U2:FuncId}(bb:addrEq b1 b1=true)(a7:addrEq b2 b2=true)(b8:addrEq b3 b3=true)
 (ah3:1<=x.k/\x.k<=3->nth ([.nilFunc,.func (.func 88) #[] #[],.func (.func 89) #[] #[],.func (.func 90) #[] #[]]:List Value) (0+x.k.toNat*1)=some (.func (.func U2) #[] #[]))
 (aD:1<=x.k/\x.k<=3->Fn (bd Q g0) U2 [.pointer (some ⟨db,0,none⟩),B6 x b1 c1 b2 c2 b3 c3] [jT db g aT aQ aK ci je jd gY] J (fun u m' af=>u=.int .i64 (eu g x)/\m'=[jT db g aT aQ aK ci je jd gY]/\J=af)):
 Fn (bd Q g0) 69 [.pointer (some ⟨db,0,none⟩),B6 x b1 c1 b2 c2 b3 c3] [jT db g aT aQ aK ci je jd gY] J (fun u m' af=>u=.int .i64 (eu g x)/\m'=[jT db g aT aQ aK ci je jd gY]/\J=af):=by
 refine Fn.cH (cM Tryz.func69) rfl rfl fun H=>?_;refine rg ?_;refine dK fun a3=>?_;refine I V.az ?_;refine bi ?_;refine I V.jl ?_;refine' W.step rfl (.of (eT rfl rfl rfl (aqy Q g0) rfl rfl rfl fun a5=>?_));refine dC ?_;refine a6 ?_;refine fR [0,3,5] ?_;refine aj ?_;refine' ab.hl 0 [(14,.bool (decide ((x.k<1\/3<x.k))))] ?NK ?NT;case NK=>
  refine ab.region ?_;refine I V.ba ?_;refine I V.aG ?_;refine I V.aZ ?_;refine I V.ag ?_;refine dr 10 (fun Ok=>?_) fun Ok=>?_
  ·refine ah ?_;refine ah ?_;refine ah ?_;refine I V.aU ?_;refine a6 ?_;exact ce
  ·refine aX V.ba ?_;refine aX V.aG ?_;refine aX V.aZ ?_;refine I V.aU ?_;refine a6 ?_;exact ce
 case NT=>
  refine aj ?_;refine If (fun lF=>?_) fun lF=>?_
  ·refine rg ?_;refine I V.az ?_;refine ns ?_;refine ab.ret ?_;refine'⟨.inr rfl,rfl,_,[jT db g aT aQ aK ci je jd gY],.tmp rfl .nil,(by first|exact .cons_cons _ (h5 _)|exact .cons _ (.cons _ (.refl _))),?_⟩;first
    |exact⟨rfl,rfl,rfl⟩
    |(refine⟨?_,rfl,rfl⟩
      unfold eu;rw[an (show ¬x.k=1 by omega),an (show ¬x.k=2 by omega),an (show ¬x.k=3 by omega)];rfl)
  ·have aO:1<=x.k/\x.k<=3:=by omega
   refine c7 ?_;refine aj ?_;refine ab.draw rfl (by kernel_rfl) (bc:=[.val 0,.val 1,.val 2,.val 3,.val 4,.val 5,.bR 6,.val 7]) (by kernel_rfl) ?_;refine al rfl V.ba ?_;refine al rfl V.aG ?_;refine al rfl V.Lg ?_;refine' a8.val rfl rfl rfl rfl (gP rfl rfl ?aw (ho (eW rfl) ?ay)) ?_;case aw=>exact qr
   case ay=>exact ah3 aO
   refine al rfl V.ag ?_;refine al rfl V.c9 ?_;refine' a8.call rfl rfl rfl rfl rfl rfl rfl rfl rfl rfl (bf:=[jT db g aT aQ aK ci je jd gY]) (bM:=[_,_]) (fN 2 rfl (fN 0 rfl (fN 0 rfl .nil))) trivial (aD aO) ?_;rintro v m' dO hle ⟨rfl,rfl,rfl⟩;refine al rfl V.az ?_;refine a8.nil ?_;refine aj ?_;refine ab.ret ?_;refine'⟨.inr rfl,rfl,_,[jT db g aT aQ aK ci je jd gY],.tmp rfl .nil,(by first|exact .cons_cons _ (h5 _)|exact .cons _ (.cons _ (.refl _))),?_⟩;first
    |exact⟨rfl,rfl,rfl⟩
    |(refine⟨?_,rfl,rfl⟩
      unfold eu;rw[an (show ¬x.k=1 by omega),an (show ¬x.k=2 by omega),an (show ¬x.k=3 by omega)];rfl)
theorem alz{db:Nat}{g:bq}{aT aK:Option Addr}{aQ ci:Nat}{je jd gY:Value}{x:cR}{b1 b2 b3:Option Addr}{c1 c2 c3:Nat}(aa:dI J (.slice b1 x.ak.length c1) x.ak)(ae:dI J (.slice b2 x.ws.length c2) x.ws)(aF:dI J (.slice b3 x.fF.length c3) x.fF)(rL:1<=g.pl)(au:g.pl<=4)(ao:g.is.length<=200)(np:addrEq aK aK=true):
 Fn (bd Q g0) 69 [.pointer (some ⟨db,0,none⟩),B6 x b1 c1 b2 c2 b3 c3] [jT db g aT aQ aK ci je jd gY] J (fun u m' af=>u=.int .i64 (eu g x)/\m'=[jT db g aT aQ aK ci je jd gY]/\J=af):=by
 have bb:addrEq b1 b1=true:=by obtain⟨e,h⟩:=aa;exact h.addr
 have a7:addrEq b2 b2=true:=by obtain⟨e,h⟩:=ae;exact h.addr
 have b8:addrEq b3 b3=true:=by obtain⟨e,h⟩:=aF;exact h.addr
 by_cases bl:x.k=1
 ·exact QS bb a7 b8 (fun _=>by rw[bl];rfl) (fun _=>acS ae bl)
 by_cases bp:x.k=2
 ·exact QS bb a7 b8 (fun _=>by rw[bp];rfl) (fun _=>alk bp rL au ao np)
 ·exact QS bb a7 b8 (fun _=>by rw[show x.k=3 by omega];rfl) (fun _=>aez aF (by omega) au bb a7 b8)
end
end
end Go.Opn

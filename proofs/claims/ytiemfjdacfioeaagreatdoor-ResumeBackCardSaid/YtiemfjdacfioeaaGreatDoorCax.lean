/- A part of the proof of ResumeBack. -/
import Derived.Test.YtiemfjdacfioeaaGreatDoorCaw
import Derived.Test.YtiemfjdacfioeaaGreatDoorCav
set_option maxRecDepth 100000
set_option maxHeartbeats 4000000
set_option linter.unusedVariables false
set_option linter.unusedSimpArgs false
namespace Go.Opn
noncomputable section
open Go.Cre Go.RowKit Go.Proofs
theorem yF{l:List Int}{cm ao:Int}:l.any (hG cm ao)=true↔∃w∈l,w<cm\/ao<w:=by
 rw[Jl];constructor
 ·rintro⟨w,aa,ae⟩;exact⟨w,aa,by simpa[hG] using ae⟩
 ·rintro⟨w,aa,ae⟩;exact⟨w,aa,by simpa[hG] using ae⟩
section
variable {Q:dI Tryz.prog}{g0:Nat}{J:aI}
abbrev Z9(g:bz)(aT:Option Addr)(aQ:Nat)(aL:Option Addr)(ci:Nat)(ja i' gZ:Value):List Value:=[.int .i64 g.pl,.slice aT g.ns.length aQ,.slice aL g.is.length ci,ja,i',gZ]
abbrev jG(dd:Nat)(g:bz)(aT:Option Addr)(aQ:Nat)(aL:Option Addr)(ci:Nat)(ja i' gZ:Value):Nat×cK:=(dd,.row (Z9 g aT aQ aL ci ja i' gZ) 130)
abbrev BV(x:cS)(bm:Option Addr)(bt:Nat)(bl:Option Addr)(bw:Nat)(b8:Option Addr)(dh:Nat):Value:=.agg #[.int .i64 x.k,.int .i64 x.p,.int .i64 x.i,.slice bm x.ak.length bt,.slice bl x.ws.length bw,.slice b8 x.fE.length dh]
theorem acj{dd:Nat}{g:bz}{aT aL:Option Addr}{aQ ci:Nat}{ja i' gZ:Value}{x:cS}{bm bl b8:Option Addr}{bt bw dh:Nat}(ae:dG J (.slice bl x.ws.length bw) x.ws)(aU:x.k=1):
 Fn (bb Q g0) 88 [.pointer (some ⟨dd,0,none⟩),BV x bm bt bl bw b8 dh] [jG dd g aT aQ aL ci ja i' gZ] J (fun u m' ag=>u=.int .i64 (ev g x)/\m'=[jG dd g aT aQ aL ci ja i' gZ]/\J=ag):=by
 refine Fn.cH (cQ Tryz.func88) rfl rfl fun H=>?_;refine rg ?_;refine dJ fun a3=>?_;refine I V.aA ?_;refine a8 ?_;refine fT [3] ?_;refine aj ?_;refine' ab.ht 0 [(39,.bool (decide ((x.p≠0\/x.i≠0\/0<x.fE.length\/x.ak.length<1\/60<x.ak.length\/x.ws.length≠x.ak.length))))] ?mT ?n1;case mT=>
  refine ab.region ?_;refine I V.bc ?_;refine I V.aF ?_;refine I V.a1 ?_;refine I V.ah ?_;refine dq 8 (fun n2=>?_) fun n2=>?_
  ·refine al ?_;refine al ?_;refine al ?_;refine I V.aV ?_;refine I V.ah ?_;refine al ?_;refine al ?_;refine al ?_;refine al ?_;refine I V.aV ?_;refine I V.ah ?_;refine al ?_;refine al ?_;refine al ?_;refine al ?_;refine I V.aV ?_;refine I V.ah ?_;refine al ?_;refine al ?_;refine al ?_;refine al ?_;refine I V.aV ?_;refine I V.ah ?_;refine al ?_;refine al ?_;refine al ?_;refine al ?_;refine al ?_;refine al ?_;refine al ?_;refine I V.aV ?_;refine a8 ?_;exact ce
  ·refine aW V.bc ?_;refine aW V.aF ?_;refine aW V.a1 ?_;refine I V.aV ?_;refine I V.ah ?_;refine dq 13 (fun xa=>?_) fun xa=>?_
   ·refine al ?_;refine al ?_;refine al ?_;refine al ?_;refine I V.aV ?_;refine I V.ah ?_;refine al ?_;refine al ?_;refine al ?_;refine al ?_;refine I V.aV ?_;refine I V.ah ?_;refine al ?_;refine al ?_;refine al ?_;refine al ?_;refine I V.aV ?_;refine I V.ah ?_;refine al ?_;refine al ?_;refine al ?_;refine al ?_;refine al ?_;refine al ?_;refine al ?_;refine I V.aV ?_;refine a8 ?_;exact ce
   ·refine aW V.bc ?_;refine aW V.aF ?_;refine aW V.bP ?_;refine aW V.a1 ?_;refine I V.aV ?_;refine I V.ah ?_;refine dq 19 (fun A1=>?_) fun A1=>?_
    ·refine al ?_;refine al ?_;refine al ?_;refine al ?_;refine I V.aV ?_;refine I V.ah ?_;refine al ?_;refine al ?_;refine al ?_;refine al ?_;refine I V.aV ?_;refine I V.ah ?_;refine al ?_;refine al ?_;refine al ?_;refine al ?_;refine al ?_;refine al ?_;refine al ?_;refine I V.aV ?_;refine a8 ?_;exact ce
    ·refine aW V.bc ?_;refine aW V.aF ?_;refine aW V.bP ?_;refine aW V.a1 ?_;refine I V.aV ?_;refine I V.ah ?_;refine dq 25 (fun A2=>?_) fun A2=>?_
     ·refine al ?_;refine al ?_;refine al ?_;refine al ?_;refine I V.aV ?_;refine I V.ah ?_;refine al ?_;refine al ?_;refine al ?_;refine al ?_;refine al ?_;refine al ?_;refine al ?_;refine I V.aV ?_;refine a8 ?_;exact ce
     ·refine aW V.bc ?_;refine aW V.aF ?_;refine aW V.bP ?_;refine aW V.a1 ?_;refine I V.aV ?_;refine I V.ah ?_;refine dq 31 (fun afS=>?_) fun afS=>?_
      ·
        refine al ?_;refine al ?_;refine al ?_;refine al ?_;refine al ?_;refine al ?_;refine al ?_;refine I V.aV ?_;refine a8 ?_;exact ce
      ·
        refine aW V.bc ?_;refine aW V.aF ?_;refine aW V.bP ?_;refine aW V.bc ?_;refine aW V.aF ?_;refine aW V.bP ?_;refine aW V.a1 ?_;refine I V.aV ?_;refine a8 ?_;exact ce
 case n1=>
  refine aj ?_;refine If (fun k0=>?_) fun k0=>?_
  ·refine rg ?_;refine I V.aA ?_;refine ns ?_;refine ab.ret ?_;refine'⟨.inr rfl,rfl,_,_,.tmp rfl .nil,.cons _ (.refl _),?_⟩;first
    |(refine⟨?_,rfl,rfl⟩
      unfold ev;rw[aE aU,aE k0];rfl)
    |(refine⟨?_,rfl,rfl⟩
      unfold ev;rw[aE aU,ap k0];by_cases q:x.ws.any (hG 1 1000)=true
      ·rw[aE q,aE (yF.1 q)];rfl
      ·rw[ap q,ap (fun k=>q (yF.2 k))];rfl)
  ·refine aj ?_;refine ab.skip ?_;refine rg ?_;refine I V.bc ?_;refine I V.aF ?_;refine' W.step rfl (Exec.call rfl rfl rfl rfl rfl rfl rfl (bh:=[]) (bW:=[_,_]) (.refl _) trivial (I9 (ae.iB []) (by omega)) ?_);rintro v m' dQ hle ⟨rfl,rfl,rfl⟩;refine I V.aA ?_;refine ns ?_;refine ab.ret ?_;refine'⟨.inr rfl,rfl,_,_,.tmp rfl .nil,.cons _ (.refl _),?_⟩;first
    |(refine⟨?_,rfl,rfl⟩
      unfold ev;rw[aE aU,aE k0];rfl)
    |(refine⟨?_,rfl,rfl⟩
      unfold ev;rw[aE aU,ap k0];by_cases q:x.ws.any (hG 1 1000)=true
      ·rw[aE q,aE (yF.1 q)];rfl
      ·rw[ap q,ap (fun k=>q (yF.2 k))];rfl)
theorem u6{cm ao n:Int}:([n].any (hG cm ao)=true)↔(n<cm\/ao<n):=by simp[hG]
theorem ad3{dd:Nat}{g:bz}{aT aL:Option Addr}{aQ ci:Nat}{ja i' gZ:Value}{x:cS}{bm bl b8:Option Addr}{bt bw dh:Nat}(aG:dG J (.slice b8 x.fE.length dh) x.fE)(aU:x.k=3)(aw:g.pl<=4)(bd:addrEq bm bm=true)(a6:addrEq bl bl=true)(b9:addrEq b8 b8=true):
 Fn (bb Q g0) 90 [.pointer (some ⟨dd,0,none⟩),BV x bm bt bl bw b8 dh] [jG dd g aT aQ aL ci ja i' gZ] J (fun u m' ag=>u=.int .i64 (ev g x)/\m'=[jG dd g aT aQ aL ci ja i' gZ]/\J=ag):=by
 refine Fn.cH (cQ Tryz.func90) rfl rfl fun H=>?_;refine rg ?_;refine dJ fun a3=>?_;refine I V.aA ?_;refine a8 ?_;refine fT [0,3] ?_;refine aj ?_;refine' ab.ht 1 [(35,.bool (decide ((x.p≠0\/x.i≠0\/0<x.ak.length\/0<x.ws.length\/(x.fE.length:Int)≠g.pl))))] ?mT ?n1;case mT=>
  refine ab.Dp [] rfl (by kernel_rfl) (bf:=[.val 0,.val 1,.val 2,.val 3,.val 4,.val 5,.val 6,.val 7,.val 8,.val 9,.val 10,.val 11,.val 12,.val 13,.val 14,.val 15,.val 16,.val 17,.val 18,.val 19,.val 20,.val 21,.val 22,.val 23,.val 24,.val 25,.val 26,.val 27,.val 28,.val 29,.val 30]) (by kernel_rfl) ?_;refine dp rfl V.bc ?_;refine dp rfl V.aF ?_;refine dp rfl V.a1 ?_;refine dp rfl V.ah ?_;refine th 8 (fun n2=>?_) fun n2=>?_
  ·refine cx rfl ?_;refine cx rfl ?_;refine cx rfl ?_;refine dp rfl V.aV ?_;refine dp rfl V.ah ?_;refine cx rfl ?_;refine cx rfl ?_;refine cx rfl ?_;refine cx rfl ?_;refine dp rfl V.aV ?_;refine dp rfl V.ah ?_;refine cx rfl ?_;refine cx rfl ?_;refine cx rfl ?_;refine cx rfl ?_;refine dp rfl V.aV ?_;refine dp rfl V.ah ?_;refine cx rfl ?_;refine cx rfl ?_;refine cx rfl ?_;refine cx rfl ?_;refine cx rfl ?_;refine cx rfl ?_;refine cx rfl ?_;refine cx rfl ?_;refine cx rfl ?_;refine dp rfl V.aV ?_;refine dx.nil ?_;exact ce
  ·refine dj rfl V.bc ?_;refine dj rfl V.aF ?_;refine dj rfl V.a1 ?_;refine dp rfl V.aV ?_;refine dp rfl V.ah ?_;refine th 13 (fun xa=>?_) fun xa=>?_
   ·refine cx rfl ?_;refine cx rfl ?_;refine cx rfl ?_;refine cx rfl ?_;refine dp rfl V.aV ?_;refine dp rfl V.ah ?_;refine cx rfl ?_;refine cx rfl ?_;refine cx rfl ?_;refine cx rfl ?_;refine dp rfl V.aV ?_;refine dp rfl V.ah ?_;refine cx rfl ?_;refine cx rfl ?_;refine cx rfl ?_;refine cx rfl ?_;refine cx rfl ?_;refine cx rfl ?_;refine cx rfl ?_;refine cx rfl ?_;refine cx rfl ?_;refine dp rfl V.aV ?_;refine dx.nil ?_;exact ce
   ·refine dj rfl V.bc ?_;refine dj rfl V.aF ?_;refine dj rfl V.bP ?_;refine dj rfl V.a1 ?_;refine dp rfl V.aV ?_;refine dp rfl V.ah ?_;refine th 19 (fun A1=>?_) fun A1=>?_
    ·refine cx rfl ?_;refine cx rfl ?_;refine cx rfl ?_;refine cx rfl ?_;refine dp rfl V.aV ?_;refine dp rfl V.ah ?_;refine cx rfl ?_;refine cx rfl ?_;refine cx rfl ?_;refine cx rfl ?_;refine cx rfl ?_;refine cx rfl ?_;refine cx rfl ?_;refine cx rfl ?_;refine cx rfl ?_;refine dp rfl V.aV ?_;refine dx.nil ?_;exact ce
    ·refine dj rfl V.bc ?_;refine dj rfl V.aF ?_;refine dj rfl V.bP ?_;refine dj rfl V.a1 ?_;refine dp rfl V.aV ?_;refine dp rfl V.ah ?_;refine th 25 (fun A2=>?_) fun A2=>?_
     ·refine cx rfl ?_;refine cx rfl ?_;refine cx rfl ?_;refine cx rfl ?_;refine cx rfl ?_;refine cx rfl ?_;refine cx rfl ?_;refine cx rfl ?_;refine cx rfl ?_;refine dp rfl V.aV ?_;refine dx.nil ?_;exact ce
     ·refine dj rfl V.bc ?_;refine dj rfl V.aF ?_;refine dj rfl V.bP ?_;refine dj rfl V.ah ?_;refine dj rfl V.o2 ?_;refine dj rfl V.bc ?_;refine dj rfl V.bc ?_;refine dj rfl V.aF ?_;refine dj rfl V.a1 ?_;refine dp rfl V.aV ?_;refine dx.nil ?_;exact ce
 case n1=>
  refine aj ?_;refine If (fun hS=>?_) fun hS=>?_
  ·refine rg ?_;refine I V.aA ?_;refine ns ?_;refine ab.ret ?_;refine'⟨.inr rfl,rfl,_,_,.tmp rfl .nil,.cons _ (.refl _),?_⟩;first
    |(refine⟨?_,rfl,rfl⟩
      unfold ev;rw[ap (show ¬x.k=1 by omega),ap (show ¬x.k=2 by omega),aE aU,aE hS];rfl)
    |(refine⟨?_,rfl,rfl⟩
      unfold ev;rw[ap (show ¬x.k=1 by omega),ap (show ¬x.k=2 by omega),aE aU,ap hS];by_cases q:x.fE.any (hG (-1000000) 1000000)=true
      ·rw[aE q,aE (yF.1 q)];rfl
      ·rw[ap q,ap (fun k=>q (yF.2 k))];rfl)
  ·refine aj ?_;refine ab.skip ?_;refine rg ?_;refine I V.bc ?_;refine I V.aF ?_;refine' W.step rfl (Exec.call rfl rfl rfl rfl rfl rfl rfl (bh:=[]) (bW:=[_,_]) (.refl _) trivial (I9 (aG.iB []) (by omega)) ?_);rintro v m' dQ hle ⟨rfl,rfl,rfl⟩;refine I V.aA ?_;refine ns ?_;refine ab.ret ?_;refine'⟨.inr rfl,rfl,_,_,.tmp rfl .nil,.cons _ (.refl _),?_⟩;first
    |(refine⟨?_,rfl,rfl⟩
      unfold ev;rw[ap (show ¬x.k=1 by omega),ap (show ¬x.k=2 by omega),aE aU,aE hS];rfl)
    |(refine⟨?_,rfl,rfl⟩
      unfold ev;rw[ap (show ¬x.k=1 by omega),ap (show ¬x.k=2 by omega),aE aU,ap hS];by_cases q:x.fE.any (hG (-1000000) 1000000)=true
      ·rw[aE q,aE (yF.1 q)];rfl
      ·rw[ap q,ap (fun k=>q (yF.2 k))];rfl)
theorem akK{dd:Nat}{g:bz}{aT aL:Option Addr}{aQ ci:Nat}{ja i' gZ:Value}{x:cS}{bm bl b8:Option Addr}{bt bw dh:Nat}(aU:x.k=2)(zh:1<=g.pl)(aw:g.pl<=4)(ao:g.is.length<=200)(nN:addrEq aL aL=true):
 Fn (bb Q g0) 89 [.pointer (some ⟨dd,0,none⟩),BV x bm bt bl bw b8 dh] [jG dd g aT aQ aL ci ja i' gZ] J (fun u m' ag=>u=.int .i64 (ev g x)/\m'=[jG dd g aT aQ aL ci ja i' gZ]/\J=ag):=by
 refine Fn.cH (cQ Tryz.func89) rfl rfl fun H=>?_;refine rg ?_;refine dJ fun a3=>?_;refine I V.aA ?_;refine a8 ?_;refine fT [0,3] ?_;refine aj ?_;refine' ab.ht 0 [(27,.bool (decide ((0<x.fE.length\/0<x.ws.length\/x.ak.length<1\/10<x.ak.length))))] ?mT ?n1;case mT=>
  refine ab.region ?_;refine I V.bc ?_;refine I V.aF ?_;refine I V.bP ?_;refine I V.a1 ?_;refine I V.ah ?_;refine dq 10 (fun afT=>?_) fun afT=>?_
  ·refine al ?_;refine al ?_;refine al ?_;refine al ?_;refine I V.aV ?_;refine I V.ah ?_;refine al ?_;refine al ?_;refine al ?_;refine al ?_;refine I V.aV ?_;refine I V.ah ?_;refine al ?_;refine al ?_;refine al ?_;refine al ?_;refine I V.aV ?_;refine a8 ?_;exact ce
  ·refine aW V.bc ?_;refine aW V.aF ?_;refine aW V.bP ?_;refine aW V.a1 ?_;refine I V.aV ?_;refine I V.ah ?_;refine dq 16 (fun NX=>?_) fun NX=>?_
   ·refine al ?_;refine al ?_;refine al ?_;refine al ?_;refine I V.aV ?_;refine I V.ah ?_;refine al ?_;refine al ?_;refine al ?_;refine al ?_;refine I V.aV ?_;refine a8 ?_;exact ce
   ·refine aW V.bc ?_;refine aW V.aF ?_;refine aW V.bP ?_;refine aW V.a1 ?_;refine I V.aV ?_;refine I V.ah ?_;refine dq 22 (fun afR=>?_) fun afR=>?_
    ·refine al ?_;refine al ?_;refine al ?_;refine al ?_;refine I V.aV ?_;refine a8 ?_;exact ce
    ·refine aW V.bc ?_;refine aW V.aF ?_;refine aW V.bP ?_;refine aW V.a1 ?_;refine I V.aV ?_;refine a8 ?_;exact ce
 case n1=>
  refine aj ?_;refine If (fun jx=>?_) fun jx=>?_
  ·refine rg ?_;refine I V.aA ?_;refine ns ?_;refine ab.ret ?_;refine'⟨.inr rfl,rfl,_,_,.tmp rfl .nil,.cons _ (.refl _),?_⟩;first
    |(refine⟨?_,rfl,rfl⟩
      unfold ev;rw[ap (show ¬x.k=1 by omega),aE aU,aE jx];rfl)
    |(refine⟨?_,rfl,rfl⟩
      unfold ev;rw[ap (show ¬x.k=1 by omega),aE aU,ap jx];by_cases q:[x.p].any (hG 0 (g.pl -1))=true
      ·rw[aE q,aE (by rw[u6] at q;omega)];rfl
      ·rw[ap q] at k0;exact absurd rfl k0)
    |(refine⟨?_,rfl,rfl⟩
      unfold ev;rw[ap (show ¬x.k=1 by omega),aE aU,ap jx];by_cases q:[x.p].any (hG 0 (g.pl -1))=true
      ·rw[aE q] at k0;exact absurd (by decide) k0
      ·by_cases a6:[x.i].any (hG 0 ((g.is.length:Int) -1))=true
       ·rw[aE a6,aE (by rw[u6] at a6;omega)];rfl
       ·rw[ap a6,ap (by rw[u6] at q a6;omega)];rfl)
  ·refine aj ?_;refine ab.skip ?_;refine aj ?_;refine ab.draw rfl (by kernel_rfl) (bf:=[.val 0,.val 1,.val 2,.val 3,.val 4,.val 5,.val 6,.val 7,.gh 8,.cF [7,6,5,4,3,2,1,0],.bV 9,.val 10]) (by kernel_rfl) ?_;refine cq ?_;refine an rfl V.aF ?_;refine an rfl V.bx ?_;refine an rfl V.bc ?_;refine an rfl V.aF ?_;refine a7.buildSlice rfl rfl rfl rfl rfl rfl (eX Q g0) rfl rfl rfl fun Ax=>?_;refine a7.cF fC ?_;refine' a7.call rfl rfl rfl rfl rfl rfl rfl rfl rfl rfl (bh:=[(Ax,_)]) (bW:=[_,_]) (.refl _) trivial (I9 (l:=[x.p]) (jJ.own (.head _)) (by simp)) ?_;rintro v m' dQ hle ⟨rfl,rfl,rfl⟩;refine an rfl V.aA ?_;refine a7.nil ?_;refine rg ?_;refine I V.ah ?_;refine I V.a1 ?_;refine ns ?_;refine If (fun k0=>?_) fun k0=>?_
   ·refine rg ?_;refine aM ?_;refine ns ?_;refine ab.ret ?_;refine'⟨.inr rfl,rfl,_,_,.tmp rfl .nil,.cons _ (.refl _),?_⟩;first
      |(refine⟨?_,rfl,rfl⟩
        unfold ev;rw[ap (show ¬x.k=1 by omega),aE aU,aE jx];rfl)
      |(refine⟨?_,rfl,rfl⟩
        unfold ev;rw[ap (show ¬x.k=1 by omega),aE aU,ap jx];by_cases q:[x.p].any (hG 0 (g.pl -1))=true
        ·rw[aE q,aE (by rw[u6] at q;omega)];rfl
        ·rw[ap q] at k0;exact absurd rfl k0)
      |(refine⟨?_,rfl,rfl⟩
        unfold ev;rw[ap (show ¬x.k=1 by omega),aE aU,ap jx];by_cases q:[x.p].any (hG 0 (g.pl -1))=true
        ·rw[aE q] at k0;exact absurd (by decide) k0
        ·by_cases a6:[x.i].any (hG 0 ((g.is.length:Int) -1))=true
         ·rw[aE a6,aE (by rw[u6] at a6;omega)];rfl
         ·rw[ap a6,ap (by rw[u6] at q a6;omega)];rfl)
   ·refine aj ?_;refine ab.skip ?_;refine aj ?_;refine ab.draw rfl (by kernel_rfl) (bf:=[.val 0,.val 1,.val 2,.val 3,.val 4,.val 5,.val 6,.val 7,.val 8,.gh 9,.cF [8,7,6,5,4,3,2,1,0],.bV 10,.val 11]) (by kernel_rfl) ?_;refine cq ?_;refine an rfl V.aF ?_;refine an rfl V.bP ?_;refine an rfl V.bx ?_;refine an rfl V.bc ?_;refine an rfl V.aF ?_;refine a7.buildSlice rfl rfl rfl rfl rfl rfl (eX Q g0) rfl rfl rfl fun ow=>?_;refine a7.cF fC ?_;refine' a7.call rfl rfl rfl rfl rfl rfl rfl rfl rfl rfl (bh:=[(ow,_)]) (bW:=[_,_]) (.refl _) trivial (I9 (l:=[x.i]) (jJ.own (.head _)) (by simp)) ?_;rintro v m' dQ hle ⟨rfl,rfl,rfl⟩;refine an rfl V.aA ?_;refine a7.nil ?_;refine aj ?_;refine ab.ret ?_;refine'⟨.inr rfl,rfl,_,_,.tmp rfl .nil,.cons _ (.refl _),?_⟩;first
      |(refine⟨?_,rfl,rfl⟩
        unfold ev;rw[ap (show ¬x.k=1 by omega),aE aU,aE jx];rfl)
      |(refine⟨?_,rfl,rfl⟩
        unfold ev;rw[ap (show ¬x.k=1 by omega),aE aU,ap jx];by_cases q:[x.p].any (hG 0 (g.pl -1))=true
        ·rw[aE q,aE (by rw[u6] at q;omega)];rfl
        ·rw[ap q] at k0;exact absurd rfl k0)
      |(refine⟨?_,rfl,rfl⟩
        unfold ev;rw[ap (show ¬x.k=1 by omega),aE aU,ap jx];by_cases q:[x.p].any (hG 0 (g.pl -1))=true
        ·rw[aE q] at k0;exact absurd (by decide) k0
        ·by_cases a6:[x.i].any (hG 0 ((g.is.length:Int) -1))=true
         ·rw[aE a6,aE (by rw[u6] at a6;omega)];rfl
         ·rw[ap a6,ap (by rw[u6] at q a6;omega)];rfl)
theorem Qu{dd:Nat}{g:bz}{aT aL:Option Addr}{aQ ci:Nat}{ja i' gZ:Value}{x:cS}{bm bl b8:Option Addr}{bt bw dh:Nat}{Ux:FuncId}(bd:addrEq bm bm=true)(a6:addrEq bl bl=true)(b9:addrEq b8 b8=true)
 (ahk:1<=x.k/\x.k<=3->nth ([.nilFunc,.func (.func 88) #[] #[],.func (.func 89) #[] #[],.func (.func 90) #[] #[]]:List Value) (0+x.k.toNat*1)=some (.func (.func Ux) #[] #[]))
 (aC:1<=x.k/\x.k<=3->Fn (bb Q g0) Ux [.pointer (some ⟨dd,0,none⟩),BV x bm bt bl bw b8 dh] [jG dd g aT aQ aL ci ja i' gZ] J (fun u m' ag=>u=.int .i64 (ev g x)/\m'=[jG dd g aT aQ aL ci ja i' gZ]/\J=ag)):
 Fn (bb Q g0) 69 [.pointer (some ⟨dd,0,none⟩),BV x bm bt bl bw b8 dh] [jG dd g aT aQ aL ci ja i' gZ] J (fun u m' ag=>u=.int .i64 (ev g x)/\m'=[jG dd g aT aQ aL ci ja i' gZ]/\J=ag):=by
 refine Fn.cH (cQ Tryz.func69) rfl rfl fun H=>?_;refine rg ?_;refine dJ fun a3=>?_;refine I V.aA ?_;refine bj ?_;refine I V.jL ?_;refine' W.step rfl (.of (e4 rfl rfl rfl (apL Q g0) rfl rfl rfl fun a5=>?_));refine dN ?_;refine a8 ?_;refine fT [0,3,5] ?_;refine aj ?_;refine' ab.ht 0 [(14,.bool (decide ((x.k<1\/3<x.k))))] ?Nh ?Nr;case Nh=>
  refine ab.region ?_;refine I V.bc ?_;refine I V.aF ?_;refine I V.a1 ?_;refine I V.ah ?_;refine dq 10 (fun NY=>?_) fun NY=>?_
  ·refine al ?_;refine al ?_;refine al ?_;refine I V.aV ?_;refine a8 ?_;exact ce
  ·refine aW V.bc ?_;refine aW V.aF ?_;refine aW V.a1 ?_;refine I V.aV ?_;refine a8 ?_;exact ce
 case Nr=>
  refine aj ?_;refine If (fun ly=>?_) fun ly=>?_
  ·refine rg ?_;refine I V.aA ?_;refine ns ?_;refine ab.ret ?_;refine'⟨.inr rfl,rfl,_,[jG dd g aT aQ aL ci ja i' gZ],.tmp rfl .nil,(by first|exact .cons_cons _ (iR _)|exact .cons _ (.cons _ (.refl _))),?_⟩;first
    |exact⟨rfl,rfl,rfl⟩
    |(refine⟨?_,rfl,rfl⟩
      unfold ev;rw[ap (show ¬x.k=1 by omega),ap (show ¬x.k=2 by omega),ap (show ¬x.k=3 by omega)];rfl)
  ·have aU:1<=x.k/\x.k<=3:=by omega
   refine c5 ?_;refine aj ?_;refine ab.draw rfl (by kernel_rfl) (bf:=[.val 0,.val 1,.val 2,.val 3,.val 4,.val 5,.bV 6,.val 7]) (by kernel_rfl) ?_;refine an rfl V.bc ?_;refine an rfl V.aF ?_;refine an rfl V.KZ ?_;refine' a7.val rfl rfl rfl rfl (gY rfl rfl ?ay (hp (eV rfl) ?az)) ?_;case ay=>exact qr
   case az=>exact ahk aU
   refine an rfl V.ah ?_;refine an rfl V.c8 ?_;refine' a7.call rfl rfl rfl rfl rfl rfl rfl rfl rfl rfl (bh:=[jG dd g aT aQ aL ci ja i' gZ]) (bW:=[_,_]) (fM 2 rfl (fM 0 rfl (fM 0 rfl .nil))) trivial (aC aU) ?_;rintro v m' dQ hle ⟨rfl,rfl,rfl⟩;refine an rfl V.aA ?_;refine a7.nil ?_;refine aj ?_;refine ab.ret ?_;refine'⟨.inr rfl,rfl,_,[jG dd g aT aQ aL ci ja i' gZ],.tmp rfl .nil,(by first|exact .cons_cons _ (iR _)|exact .cons _ (.cons _ (.refl _))),?_⟩;first
    |exact⟨rfl,rfl,rfl⟩
    |(refine⟨?_,rfl,rfl⟩
      unfold ev;rw[ap (show ¬x.k=1 by omega),ap (show ¬x.k=2 by omega),ap (show ¬x.k=3 by omega)];rfl)
theorem akW{dd:Nat}{g:bz}{aT aL:Option Addr}{aQ ci:Nat}{ja i' gZ:Value}{x:cS}{bm bl b8:Option Addr}{bt bw dh:Nat}(aa:dG J (.slice bm x.ak.length bt) x.ak)(ae:dG J (.slice bl x.ws.length bw) x.ws)(aG:dG J (.slice b8 x.fE.length dh) x.fE)(zh:1<=g.pl)(aw:g.pl<=4)(ao:g.is.length<=200)(nN:addrEq aL aL=true):
 Fn (bb Q g0) 69 [.pointer (some ⟨dd,0,none⟩),BV x bm bt bl bw b8 dh] [jG dd g aT aQ aL ci ja i' gZ] J (fun u m' ag=>u=.int .i64 (ev g x)/\m'=[jG dd g aT aQ aL ci ja i' gZ]/\J=ag):=by
 have bd:addrEq bm bm=true:=by obtain⟨e,h⟩:=aa;exact h.addr
 have a6:addrEq bl bl=true:=by obtain⟨e,h⟩:=ae;exact h.addr
 have b9:addrEq b8 b8=true:=by obtain⟨e,h⟩:=aG;exact h.addr
 by_cases bp:x.k=1
 ·exact Qu bd a6 b9 (fun _=>by rw[bp];rfl) (fun _=>acj ae bp)
 by_cases bC:x.k=2
 ·exact Qu bd a6 b9 (fun _=>by rw[bC];rfl) (fun _=>akK bC zh aw ao nN)
 ·exact Qu bd a6 b9 (fun _=>by rw[show x.k=3 by omega];rfl) (fun _=>ad3 aG (by omega) aw bd a6 b9)
end
end
end Go.Opn
namespace Go.Opn
noncomputable section
theorem wQ(rec:Nat->Option (Nat×List gq))(c:Int)(r:List Int)(n:Nat):hl rec (c::r) n=if c≠(n:Int) then none else match rec n with
 |none=>none
 |some (b0,es)=>match hl rec r b0 with
  |none=>none
  |some (dn,Gq)=>some (dn,es++Gq):=rfl
theorem TI(rec:Nat->Option (Nat×List gq)):∀(a b:List Int) (n:Nat),hl rec (a++b) n=match hl rec a n with
 |none=>none
 |some (b0,aN)=>match hl rec b b0 with
  |none=>none
  |some (dn,bn)=>some (dn,aN++bn):=by
 intro a;induction a with
 |nil=>
  intro b n;show hl rec b n=_;cases h:hl rec b n with
  |none=>simp[hl,h]
  |some p=>simp[hl,h]
 |cons c a aK=>
  intro b n;show hl rec (c::(a++b)) n=_;rw[wQ,wQ];by_cases aH:c≠(n:Int)
  ·rw[aE aH,aE aH]
  ·rw[ap aH,ap aH];cases ay:rec n with
   |none=>rfl
   |some p=>
    obtain⟨b0,aN⟩:=p;simp only
    rw[aK b b0];cases a':hl rec a b0 with
    |none=>rfl
    |some q=>
     obtain⟨dn,bn⟩:=q;simp only
     cases au:hl rec b dn with
     |none=>rfl
     |some r=>obtain⟨lh,cP⟩:=r;simp
theorem aci(rec:Nat->Option (Nat×List gq))(c:Int)(n:Nat):hl rec [c] n=if c≠(n:Int) then none else rec n:=by
 rw[wQ];split
 ·rfl
 ·cases h:rec n with
  |none=>rfl
  |some p=>obtain⟨b0,aN⟩:=p;simp[hl]
theorem q6{rec:Nat->Option (Nat×List gq)}{cs:List Int}{n k:Nat}{c:Int}{cur:Nat}{es:List gq}(h:hl rec (cs.take k) n=some (cur,es))(aH:cs[k]?=some c):
 hl rec (cs.take (k+1)) n=if c≠(cur:Int) then none else match rec cur with
  |none=>none
  |some (b0,aN)=>some (b0,es++aN):=by
 rw[nS,aH];show hl rec (cs.take k++[c]) n=_;rw[TI,h];simp only[aci];by_cases q:c≠(cur:Int)
 ·rw[aE q,aE q]
 ·rw[ap q,ap q]
theorem ts{rec:Nat->Option (Nat×List gq)}{cs:List Int}{n k:Nat}(h:hl rec (cs.take k) n=none):hl rec cs n=none:=by
 have:=TI rec (cs.take k) (cs.drop k) n;rw[Mu,h] at this;exact this
theorem AI{ns:List cS}{rec:Nat->Option (Nat×List gq)}(ay:∀n b0 e,rec n=some (b0,e)->n<b0/\b0<=ns.length/\e.length=b0 -n):∀{cs:List Int} {n b0:Nat} {e:List gq},hl rec cs n=some (b0,e)->n<=ns.length->n<=b0/\b0<=ns.length/\e.length=b0 -n:=by
 intro cs;induction cs with
 |nil=>intro n b0 e h aP;simp only[hl,cp,dC] at h;obtain⟨rfl,rfl⟩:=h;exact⟨cZ _,aP,by simp⟩
 |cons c cs aK=>
  intro n b0 e h aP;rw[wQ] at h;split at h
  ·cases h
  ·split at h
   ·cases h
   ·rename_i dn bn ae;obtain⟨bo,a2,a3⟩:=ay _ _ _ ae;split at h
    ·cases h
    ·rename_i lh cP aG;simp only[cp,dC] at h;obtain⟨rfl,rfl⟩:=h;obtain⟨bm,bl,b8⟩:=aK aG a2;exact⟨by omega,bl,by rw[dv];omega⟩
theorem qJ{ns:List cS}:∀(f:Nat) (p d:Int) (n b0:Nat) (e:List gq),dP ns f p d n=some (b0,e)->n<b0/\b0<=ns.length/\e.length=b0 -n:=by
 intro f;induction f with
 |zero=>intro p d n b0 e h;cases h
 |succ f aK=>
  intro p d n b0 e h;unfold dP at h;split at h
  ·cases h
  ·rename_i x U;have c4:=(dX.1 U).1;split at h
   ·cases h
   ·rename_i dn es ae;simp only[cp,dC] at h;obtain⟨rfl,rfl⟩:=h;obtain⟨bm,bl,b8⟩:=AI (fun a b c q=>aK _ _ a b c q) ae (by omega);exact⟨by omega,bl,by rw[iQ];omega⟩
def jF(L:List Int)(a:Nat)(vs:List Int):List Int:=L.take a++vs++L.drop (a+vs.length)
theorem Ca{L:List Int}{a:Nat}{vs:List Int}(h:a+vs.length<=L.length):(jF L a vs).length=L.length:=by
 unfold jF;simp only[dv,h1,lO];omega
theorem amv(L:List Int)(a:Nat):jF L a []=L:=by simp[jF]
theorem QU{L:List Int}{a b:Nat}{vs ws:List Int}(h:a+vs.length<=L.length)(au:b=a+vs.length):jF (jF L a vs) b ws=jF L a (vs++ws):=by
 subst au;unfold jF;have aa:(L.take a++vs).length=a+vs.length:=by rw[dv,h1];omega
 rw[Sr (by omega),et (by omega),List.drop_append,CL (by omega),aa,me,Ar,dv,<-gH];congr 2
 omega
theorem YZ{L:List Int}{a:Nat}{x:Int}(h:a<L.length):L.set a x=jF L a [x]:=by
 rw[Mt,aE h];simp[jF]
theorem Ym{L:List Int}{a:Nat}{vs:List Int}(h:a+vs.length<=L.length)(i:Nat):(jF L a vs)[i]?=if a<=i/\i<a+vs.length then vs[i -a]? else L[i]?:=by
 unfold jF;have ae:(L.take a).length=a:=by rw[h1];omega
 by_cases bd:i<a
 ·rw[ap (by omega),gH,lq (by omega),kI,aE bd]
 ·by_cases a6:i<a+vs.length
  ·rw[aE (by omega),gH,qT (by omega),ae,lq (by omega)]
  ·rw[ap (by omega),gH,qT (by omega),ae,qT (by omega),pY];congr 1;omega
theorem LG{L:List Int}{a:Nat}{x:Int}{vs:List Int}(h:a+1+vs.length<=L.length):(jF L (a+1) vs).set a x=jF L a (x::vs):=by
 apply lp
 intro i;rw[kH,Ym h,Ca h,Ym (by rw[iQ];omega),iQ];by_cases q:a=i
 ·subst q;rw[aE rfl,aE (by omega),aE (by omega),tb];rfl
 ·rw[ap q];by_cases a6:a+1<=i/\i<a+1+vs.length
  ·rw[aE a6,aE (by omega),show i -a=(i -(a+1))+1 by omega,yr]
  ·rw[ap a6,ap (by omega)]
end
end Go.Opn

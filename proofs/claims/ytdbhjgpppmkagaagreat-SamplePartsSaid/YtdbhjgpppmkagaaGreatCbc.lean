/- A part of the proof of SampleParts. -/
import Derived.Test.YtdbhjgpppmkagaaGreatCaz
set_option maxRecDepth 100000
set_option maxHeartbeats 4000000
set_option linter.unusedVariables false
set_option linter.unusedSimpArgs false
namespace Go.Opn
noncomputable section
open Go.Cre Go.RowKit Go.Proofs
theorem wL{l:List Int}{cL ak:Int}:l.any (gY cL ak)=true↔∃w∈l,w<cL\/ak<w:=by
 rw[J3];constructor
 ·rintro⟨w,aa,ab⟩;exact⟨w,aa,by simpa[gY] using ab⟩
 ·rintro⟨w,aa,ab⟩;exact⟨w,aa,by simpa[gY] using ab⟩
section
variable {Q:db Tryz.prog}{g0:Nat}{J:aA}
abbrev W'(g:bp)(aT:Option Addr)(aP:Nat)(bi:Option Addr)(ci:Nat)(iE iD g3:Value):List Value:=[.int .i64 g.pl,.slice aT g.ns.length aP,.slice bi g.is.length ci,iE,iD,g3]
abbrev jk(dm:Nat)(g:bp)(aT:Option Addr)(aP:Nat)(bi:Option Addr)(ci:Nat)(iE iD g3:Value):Nat×cI:=(dm,.row (W' g aT aP bi ci iE iD g3) 149)
abbrev B2(x:cH)(bE:Option Addr)(bx:Nat)(bS:Option Addr)(bT:Nat)(cJ:Option Addr)(dA:Nat):Value:=.agg #[.int .i64 x.k,.int .i64 x.p,.int .i64 x.i,.slice bE x.af.length bx,.slice bS x.ws.length bT,.slice cJ x.gw.length dA]
theorem Za{dm:Nat}{g:bp}{aT bi:Option Addr}{aP ci:Nat}{iE iD g3:Value}{x:cH}{bE bS cJ:Option Addr}{bx bT dA:Nat}(ab:ew J (.slice bS x.ws.length bT) x.ws)(aH:x.k=1):
 Fn (a2 Q g0) 95 [.pointer (some ⟨dm,0,none⟩),B2 x bE bx bS bT cJ dA] [jk dm g aT aP bi ci iE iD g3] J (fun u m' ag=>u=.int .i64 (fh g x)/\m'=[jk dm g aT aP bi ci iE iD g3]/\J=ag):=by
 refine Fn.dw (dB Tryz.func95) rfl rfl fun H=>?_;refine rg ?_;refine fG fun bO=>?_;refine U V.a7 ?_;refine bu ?_;refine kq [3] ?_;refine aJ ?_;refine' ae.mi 0 [(39,.bool (decide ((x.p≠0\/x.i≠0\/0<x.gw.length\/x.af.length<1\/60<x.af.length\/x.ws.length≠x.af.length))))] ?qY ?sa;case qY=>
  refine ae.region ?_;refine U V.bU ?_;refine U V.a9 ?_;refine U V.bm ?_;refine U V.az ?_;refine eu 8 (fun sj=>?_) fun sj=>?_
  ·refine a0 ?_;refine a0 ?_;refine a0 ?_;refine U V.bc ?_;refine U V.az ?_;refine a0 ?_;refine a0 ?_;refine a0 ?_;refine a0 ?_;refine U V.bc ?_;refine U V.az ?_;refine a0 ?_;refine a0 ?_;refine a0 ?_;refine a0 ?_;refine U V.bc ?_;refine U V.az ?_;refine a0 ?_;refine a0 ?_;refine a0 ?_;refine a0 ?_;refine U V.bc ?_;refine U V.az ?_;refine a0 ?_;refine a0 ?_;refine a0 ?_;refine a0 ?_;refine a0 ?_;refine a0 ?_;refine a0 ?_;refine U V.bc ?_;refine bu ?_;exact ce
  ·refine bg V.bU ?_;refine bg V.a9 ?_;refine bg V.bm ?_;refine U V.bc ?_;refine U V.az ?_;refine eu 13 (fun D8=>?_) fun D8=>?_
   ·refine a0 ?_;refine a0 ?_;refine a0 ?_;refine a0 ?_;refine U V.bc ?_;refine U V.az ?_;refine a0 ?_;refine a0 ?_;refine a0 ?_;refine a0 ?_;refine U V.bc ?_;refine U V.az ?_;refine a0 ?_;refine a0 ?_;refine a0 ?_;refine a0 ?_;refine U V.bc ?_;refine U V.az ?_;refine a0 ?_;refine a0 ?_;refine a0 ?_;refine a0 ?_;refine a0 ?_;refine a0 ?_;refine a0 ?_;refine U V.bc ?_;refine bu ?_;exact ce
   ·refine bg V.bU ?_;refine bg V.a9 ?_;refine bg V.cr ?_;refine bg V.bm ?_;refine U V.bc ?_;refine U V.az ?_;refine eu 19 (fun D6=>?_) fun D6=>?_
    ·refine a0 ?_;refine a0 ?_;refine a0 ?_;refine a0 ?_;refine U V.bc ?_;refine U V.az ?_;refine a0 ?_;refine a0 ?_;refine a0 ?_;refine a0 ?_;refine U V.bc ?_;refine U V.az ?_;refine a0 ?_;refine a0 ?_;refine a0 ?_;refine a0 ?_;refine a0 ?_;refine a0 ?_;refine a0 ?_;refine U V.bc ?_;refine bu ?_;exact ce
    ·refine bg V.bU ?_;refine bg V.a9 ?_;refine bg V.cr ?_;refine bg V.bm ?_;refine U V.bc ?_;refine U V.az ?_;refine eu 25 (fun D7=>?_) fun D7=>?_
     ·refine a0 ?_;refine a0 ?_;refine a0 ?_;refine a0 ?_;refine U V.bc ?_;refine U V.az ?_;refine a0 ?_;refine a0 ?_;refine a0 ?_;refine a0 ?_;refine a0 ?_;refine a0 ?_;refine a0 ?_;refine U V.bc ?_;refine bu ?_;exact ce
     ·refine bg V.bU ?_;refine bg V.a9 ?_;refine bg V.cr ?_;refine bg V.bm ?_;refine U V.bc ?_;refine U V.az ?_;refine eu 31 (fun abH=>?_) fun abH=>?_
      ·
        refine a0 ?_;refine a0 ?_;refine a0 ?_;refine a0 ?_;refine a0 ?_;refine a0 ?_;refine a0 ?_;refine U V.bc ?_;refine bu ?_;exact ce
      ·
        refine bg V.bU ?_;refine bg V.a9 ?_;refine bg V.cr ?_;refine bg V.bU ?_;refine bg V.a9 ?_;refine bg V.cr ?_;refine bg V.bm ?_;refine U V.bc ?_;refine bu ?_;exact ce
 case sa=>
  refine aJ ?_;refine If (fun mh=>?_) fun mh=>?_
  ·refine rg ?_;refine U V.a7 ?_;refine ns ?_;refine ae.ret ?_;refine'⟨.inr rfl,rfl,_,_,.tmp rfl .nil,.cons _ (.refl _),?_⟩;first
    |(refine⟨?_,rfl,rfl⟩
      unfold fh;rw[aF aH,aF mh];rfl)
    |(refine⟨?_,rfl,rfl⟩
      unfold fh;rw[aF aH,aq mh];by_cases q:x.ws.any (gY 1 1000)=true
      ·rw[aF q,aF (wL.1 q)];rfl
      ·rw[aq q,aq (fun k=>q (wL.2 k))];rfl)
  ·refine aJ ?_;refine ae.skip ?_;refine rg ?_;refine U V.bU ?_;refine U V.a9 ?_;refine' W.step rfl (Exec.call rfl rfl rfl rfl rfl rfl rfl (a4:=[]) (b2:=[_,_]) (.refl _) trivial (Gc (ab.l6 []) (by omega)) ?_);rintro v m' cN hle ⟨rfl,rfl,rfl⟩;refine U V.a7 ?_;refine ns ?_;refine ae.ret ?_;refine'⟨.inr rfl,rfl,_,_,.tmp rfl .nil,.cons _ (.refl _),?_⟩;first
    |(refine⟨?_,rfl,rfl⟩
      unfold fh;rw[aF aH,aF mh];rfl)
    |(refine⟨?_,rfl,rfl⟩
      unfold fh;rw[aF aH,aq mh];by_cases q:x.ws.any (gY 1 1000)=true
      ·rw[aF q,aF (wL.1 q)];rfl
      ·rw[aq q,aq (fun k=>q (wL.2 k))];rfl)
theorem tm{cL ak n:Int}:([n].any (gY cL ak)=true)↔(n<cL\/ak<n):=by simp[gY]
theorem aaq{dm:Nat}{g:bp}{aT bi:Option Addr}{aP ci:Nat}{iE iD g3:Value}{x:cH}{bE bS cJ:Option Addr}{bx bT dA:Nat}(aK:ew J (.slice cJ x.gw.length dA) x.gw)(aH:x.k=3)(au:g.pl<=4)(aZ:addrEq bE bE=true)(aR:addrEq bS bS=true)(bY:addrEq cJ cJ=true):
 Fn (a2 Q g0) 97 [.pointer (some ⟨dm,0,none⟩),B2 x bE bx bS bT cJ dA] [jk dm g aT aP bi ci iE iD g3] J (fun u m' ag=>u=.int .i64 (fh g x)/\m'=[jk dm g aT aP bi ci iE iD g3]/\J=ag):=by
 refine Fn.dw (dB Tryz.func97) rfl rfl fun H=>?_;refine rg ?_;refine fG fun bO=>?_;refine U V.a7 ?_;refine bu ?_;refine kq [0,3] ?_;refine aJ ?_;refine' ae.mi 1 [(35,.bool (decide ((x.p≠0\/x.i≠0\/0<x.af.length\/0<x.ws.length\/(x.gw.length:Int)≠g.pl))))] ?qY ?sa;case qY=>
  refine ae.yP [] rfl (by kernel_rfl) (a8:=[.val 0,.val 1,.val 2,.val 3,.val 4,.val 5,.val 6,.val 7,.val 8,.val 9,.val 10,.val 11,.val 12,.val 13,.val 14,.val 15,.val 16,.val 17,.val 18,.val 19,.val 20,.val 21,.val 22,.val 23,.val 24,.val 25,.val 26,.val 27,.val 28,.val 29,.val 30]) (by kernel_rfl) ?_;refine dJ rfl V.bU ?_;refine dJ rfl V.a9 ?_;refine dJ rfl V.bm ?_;refine dJ rfl V.az ?_;refine te 8 (fun sj=>?_) fun sj=>?_
  ·refine cW rfl ?_;refine cW rfl ?_;refine cW rfl ?_;refine dJ rfl V.bc ?_;refine dJ rfl V.az ?_;refine cW rfl ?_;refine cW rfl ?_;refine cW rfl ?_;refine cW rfl ?_;refine dJ rfl V.bc ?_;refine dJ rfl V.az ?_;refine cW rfl ?_;refine cW rfl ?_;refine cW rfl ?_;refine cW rfl ?_;refine dJ rfl V.bc ?_;refine dJ rfl V.az ?_;refine cW rfl ?_;refine cW rfl ?_;refine cW rfl ?_;refine cW rfl ?_;refine cW rfl ?_;refine cW rfl ?_;refine cW rfl ?_;refine cW rfl ?_;refine cW rfl ?_;refine dJ rfl V.bc ?_;refine eb.nil ?_;exact ce
  ·refine eG rfl V.bU ?_;refine eG rfl V.a9 ?_;refine eG rfl V.bm ?_;refine dJ rfl V.bc ?_;refine dJ rfl V.az ?_;refine te 13 (fun D8=>?_) fun D8=>?_
   ·refine cW rfl ?_;refine cW rfl ?_;refine cW rfl ?_;refine cW rfl ?_;refine dJ rfl V.bc ?_;refine dJ rfl V.az ?_;refine cW rfl ?_;refine cW rfl ?_;refine cW rfl ?_;refine cW rfl ?_;refine dJ rfl V.bc ?_;refine dJ rfl V.az ?_;refine cW rfl ?_;refine cW rfl ?_;refine cW rfl ?_;refine cW rfl ?_;refine cW rfl ?_;refine cW rfl ?_;refine cW rfl ?_;refine cW rfl ?_;refine cW rfl ?_;refine dJ rfl V.bc ?_;refine eb.nil ?_;exact ce
   ·refine eG rfl V.bU ?_;refine eG rfl V.a9 ?_;refine eG rfl V.cr ?_;refine eG rfl V.bm ?_;refine dJ rfl V.bc ?_;refine dJ rfl V.az ?_;refine te 19 (fun D6=>?_) fun D6=>?_
    ·refine cW rfl ?_;refine cW rfl ?_;refine cW rfl ?_;refine cW rfl ?_;refine dJ rfl V.bc ?_;refine dJ rfl V.az ?_;refine cW rfl ?_;refine cW rfl ?_;refine cW rfl ?_;refine cW rfl ?_;refine cW rfl ?_;refine cW rfl ?_;refine cW rfl ?_;refine cW rfl ?_;refine cW rfl ?_;refine dJ rfl V.bc ?_;refine eb.nil ?_;exact ce
    ·refine eG rfl V.bU ?_;refine eG rfl V.a9 ?_;refine eG rfl V.cr ?_;refine eG rfl V.bm ?_;refine dJ rfl V.bc ?_;refine dJ rfl V.az ?_;refine te 25 (fun D7=>?_) fun D7=>?_
     ·refine cW rfl ?_;refine cW rfl ?_;refine cW rfl ?_;refine cW rfl ?_;refine cW rfl ?_;refine cW rfl ?_;refine cW rfl ?_;refine cW rfl ?_;refine cW rfl ?_;refine dJ rfl V.bc ?_;refine eb.nil ?_;exact ce
     ·refine eG rfl V.bU ?_;refine eG rfl V.a9 ?_;refine eG rfl V.cr ?_;refine eG rfl V.az ?_;refine eG rfl V.l2 ?_;refine eG rfl V.bU ?_;refine eG rfl V.bU ?_;refine eG rfl V.a9 ?_;refine eG rfl V.bm ?_;refine dJ rfl V.bc ?_;refine eb.nil ?_;exact ce
 case sa=>
  refine aJ ?_;refine If (fun h0=>?_) fun h0=>?_
  ·refine rg ?_;refine U V.a7 ?_;refine ns ?_;refine ae.ret ?_;refine'⟨.inr rfl,rfl,_,_,.tmp rfl .nil,.cons _ (.refl _),?_⟩;first
    |(refine⟨?_,rfl,rfl⟩
      unfold fh;rw[aq (show ¬x.k=1 by omega),aq (show ¬x.k=2 by omega),aF aH,aF h0];rfl)
    |(refine⟨?_,rfl,rfl⟩
      unfold fh;rw[aq (show ¬x.k=1 by omega),aq (show ¬x.k=2 by omega),aF aH,aq h0];by_cases q:x.gw.any (gY (-1000000) 1000000)=true
      ·rw[aF q,aF (wL.1 q)];rfl
      ·rw[aq q,aq (fun k=>q (wL.2 k))];rfl)
  ·refine aJ ?_;refine ae.skip ?_;refine rg ?_;refine U V.bU ?_;refine U V.a9 ?_;refine' W.step rfl (Exec.call rfl rfl rfl rfl rfl rfl rfl (a4:=[]) (b2:=[_,_]) (.refl _) trivial (Gc (aK.l6 []) (by omega)) ?_);rintro v m' cN hle ⟨rfl,rfl,rfl⟩;refine U V.a7 ?_;refine ns ?_;refine ae.ret ?_;refine'⟨.inr rfl,rfl,_,_,.tmp rfl .nil,.cons _ (.refl _),?_⟩;first
    |(refine⟨?_,rfl,rfl⟩
      unfold fh;rw[aq (show ¬x.k=1 by omega),aq (show ¬x.k=2 by omega),aF aH,aF h0];rfl)
    |(refine⟨?_,rfl,rfl⟩
      unfold fh;rw[aq (show ¬x.k=1 by omega),aq (show ¬x.k=2 by omega),aF aH,aq h0];by_cases q:x.gw.any (gY (-1000000) 1000000)=true
      ·rw[aF q,aF (wL.1 q)];rfl
      ·rw[aq q,aq (fun k=>q (wL.2 k))];rfl)
theorem afY{dm:Nat}{g:bp}{aT bi:Option Addr}{aP ci:Nat}{iE iD g3:Value}{x:cH}{bE bS cJ:Option Addr}{bx bT dA:Nat}(aH:x.k=2)(k':1<=g.pl)(au:g.pl<=4)(ak:g.is.length<=200)(mw:addrEq bi bi=true):
 Fn (a2 Q g0) 96 [.pointer (some ⟨dm,0,none⟩),B2 x bE bx bS bT cJ dA] [jk dm g aT aP bi ci iE iD g3] J (fun u m' ag=>u=.int .i64 (fh g x)/\m'=[jk dm g aT aP bi ci iE iD g3]/\J=ag):=by
 refine Fn.dw (dB Tryz.func96) rfl rfl fun H=>?_;refine rg ?_;refine fG fun bO=>?_;refine U V.a7 ?_;refine bu ?_;refine kq [0,3] ?_;refine aJ ?_;refine' ae.mi 0 [(27,.bool (decide ((0<x.gw.length\/0<x.ws.length\/x.af.length<1\/10<x.af.length))))] ?qY ?sa;case qY=>
  refine ae.region ?_;refine U V.bU ?_;refine U V.a9 ?_;refine U V.cr ?_;refine U V.bm ?_;refine U V.az ?_;refine eu 10 (fun abI=>?_) fun abI=>?_
  ·refine a0 ?_;refine a0 ?_;refine a0 ?_;refine a0 ?_;refine U V.bc ?_;refine U V.az ?_;refine a0 ?_;refine a0 ?_;refine a0 ?_;refine a0 ?_;refine U V.bc ?_;refine U V.az ?_;refine a0 ?_;refine a0 ?_;refine a0 ?_;refine a0 ?_;refine U V.bc ?_;refine bu ?_;exact ce
  ·refine bg V.bU ?_;refine bg V.a9 ?_;refine bg V.cr ?_;refine bg V.bm ?_;refine U V.bc ?_;refine U V.az ?_;refine eu 16 (fun LF=>?_) fun LF=>?_
   ·refine a0 ?_;refine a0 ?_;refine a0 ?_;refine a0 ?_;refine U V.bc ?_;refine U V.az ?_;refine a0 ?_;refine a0 ?_;refine a0 ?_;refine a0 ?_;refine U V.bc ?_;refine bu ?_;exact ce
   ·refine bg V.bU ?_;refine bg V.a9 ?_;refine bg V.cr ?_;refine bg V.bm ?_;refine U V.bc ?_;refine U V.az ?_;refine eu 22 (fun abG=>?_) fun abG=>?_
    ·refine a0 ?_;refine a0 ?_;refine a0 ?_;refine a0 ?_;refine U V.bc ?_;refine bu ?_;exact ce
    ·refine bg V.bU ?_;refine bg V.a9 ?_;refine bg V.cr ?_;refine bg V.bm ?_;refine U V.bc ?_;refine bu ?_;exact ce
 case sa=>
  refine aJ ?_;refine If (fun j8=>?_) fun j8=>?_
  ·refine rg ?_;refine U V.a7 ?_;refine ns ?_;refine ae.ret ?_;refine'⟨.inr rfl,rfl,_,_,.tmp rfl .nil,.cons _ (.refl _),?_⟩;first
    |(refine⟨?_,rfl,rfl⟩
      unfold fh;rw[aq (show ¬x.k=1 by omega),aF aH,aF j8];rfl)
    |(refine⟨?_,rfl,rfl⟩
      unfold fh;rw[aq (show ¬x.k=1 by omega),aF aH,aq j8];by_cases q:[x.p].any (gY 0 (g.pl -1))=true
      ·rw[aF q,aF (by rw[tm] at q;omega)];rfl
      ·rw[aq q] at mh;exact absurd rfl mh)
    |(refine⟨?_,rfl,rfl⟩
      unfold fh;rw[aq (show ¬x.k=1 by omega),aF aH,aq j8];by_cases q:[x.p].any (gY 0 (g.pl -1))=true
      ·rw[aF q] at mh;exact absurd (by decide) mh
      ·by_cases aR:[x.i].any (gY 0 ((g.is.length:Int) -1))=true
       ·rw[aF aR,aF (by rw[tm] at aR;omega)];rfl
       ·rw[aq aR,aq (by rw[tm] at q aR;omega)];rfl)
  ·refine aJ ?_;refine ae.skip ?_;refine aJ ?_;refine ae.draw rfl (by kernel_rfl) (a8:=[.val 0,.val 1,.val 2,.val 3,.val 4,.val 5,.val 6,.val 7,.f' 8,.c9 [7,6,5,4,3,2,1,0],.cv 9,.val 10]) (by kernel_rfl) ?_;refine cm ?_;refine aB rfl V.a9 ?_;refine aB rfl V.va ?_;refine aB rfl V.bU ?_;refine aB rfl V.a9 ?_;refine a3.buildSlice rfl rfl rfl rfl rfl rfl (hL Q g0) rfl rfl rfl fun GJ=>?_;refine a3.c9 g7 ?_;refine' a3.call rfl rfl rfl rfl rfl rfl rfl rfl rfl rfl (a4:=[(GJ,_)]) (b2:=[_,_]) (.refl _) trivial (Gc (l:=[x.p]) (iH.own (.head _)) (by simp)) ?_;rintro v m' cN hle ⟨rfl,rfl,rfl⟩;refine aB rfl V.a7 ?_;refine a3.nil ?_;refine rg ?_;refine U V.az ?_;refine U V.bm ?_;refine ns ?_;refine If (fun mh=>?_) fun mh=>?_
   ·refine rg ?_;refine aV ?_;refine ns ?_;refine ae.ret ?_;refine'⟨.inr rfl,rfl,_,_,.tmp rfl .nil,.cons _ (.refl _),?_⟩;first
      |(refine⟨?_,rfl,rfl⟩
        unfold fh;rw[aq (show ¬x.k=1 by omega),aF aH,aF j8];rfl)
      |(refine⟨?_,rfl,rfl⟩
        unfold fh;rw[aq (show ¬x.k=1 by omega),aF aH,aq j8];by_cases q:[x.p].any (gY 0 (g.pl -1))=true
        ·rw[aF q,aF (by rw[tm] at q;omega)];rfl
        ·rw[aq q] at mh;exact absurd rfl mh)
      |(refine⟨?_,rfl,rfl⟩
        unfold fh;rw[aq (show ¬x.k=1 by omega),aF aH,aq j8];by_cases q:[x.p].any (gY 0 (g.pl -1))=true
        ·rw[aF q] at mh;exact absurd (by decide) mh
        ·by_cases aR:[x.i].any (gY 0 ((g.is.length:Int) -1))=true
         ·rw[aF aR,aF (by rw[tm] at aR;omega)];rfl
         ·rw[aq aR,aq (by rw[tm] at q aR;omega)];rfl)
   ·refine aJ ?_;refine ae.skip ?_;refine aJ ?_;refine ae.draw rfl (by kernel_rfl) (a8:=[.val 0,.val 1,.val 2,.val 3,.val 4,.val 5,.val 6,.val 7,.val 8,.f' 9,.c9 [8,7,6,5,4,3,2,1,0],.cv 10,.val 11]) (by kernel_rfl) ?_;refine cm ?_;refine aB rfl V.a9 ?_;refine aB rfl V.cr ?_;refine aB rfl V.va ?_;refine aB rfl V.bU ?_;refine aB rfl V.a9 ?_;refine a3.buildSlice rfl rfl rfl rfl rfl rfl (hL Q g0) rfl rfl rfl fun X6=>?_;refine a3.c9 g7 ?_;refine' a3.call rfl rfl rfl rfl rfl rfl rfl rfl rfl rfl (a4:=[(X6,_)]) (b2:=[_,_]) (.refl _) trivial (Gc (l:=[x.i]) (iH.own (.head _)) (by simp)) ?_;rintro v m' cN hle ⟨rfl,rfl,rfl⟩;refine aB rfl V.a7 ?_;refine a3.nil ?_;refine aJ ?_;refine ae.ret ?_;refine'⟨.inr rfl,rfl,_,_,.tmp rfl .nil,.cons _ (.refl _),?_⟩;first
      |(refine⟨?_,rfl,rfl⟩
        unfold fh;rw[aq (show ¬x.k=1 by omega),aF aH,aF j8];rfl)
      |(refine⟨?_,rfl,rfl⟩
        unfold fh;rw[aq (show ¬x.k=1 by omega),aF aH,aq j8];by_cases q:[x.p].any (gY 0 (g.pl -1))=true
        ·rw[aF q,aF (by rw[tm] at q;omega)];rfl
        ·rw[aq q] at mh;exact absurd rfl mh)
      |(refine⟨?_,rfl,rfl⟩
        unfold fh;rw[aq (show ¬x.k=1 by omega),aF aH,aq j8];by_cases q:[x.p].any (gY 0 (g.pl -1))=true
        ·rw[aF q] at mh;exact absurd (by decide) mh
        ·by_cases aR:[x.i].any (gY 0 ((g.is.length:Int) -1))=true
         ·rw[aF aR,aF (by rw[tm] at aR;omega)];rfl
         ·rw[aq aR,aq (by rw[tm] at q aR;omega)];rfl)
theorem NI{dm:Nat}{g:bp}{aT bi:Option Addr}{aP ci:Nat}{iE iD g3:Value}{x:cH}{bE bS cJ:Option Addr}{bx bT dA:Nat}{RR:FuncId}(aZ:addrEq bE bE=true)(aR:addrEq bS bS=true)(bY:addrEq cJ cJ=true)
 (adh:1<=x.k/\x.k<=3->nth ([.nilFunc,.func (.func 95) #[] #[],.func (.func 96) #[] #[],.func (.func 97) #[] #[]]:List Value) (0+x.k.toNat*1)=some (.func (.func RR) #[] #[]))
 (aw:1<=x.k/\x.k<=3->Fn (a2 Q g0) RR [.pointer (some ⟨dm,0,none⟩),B2 x bE bx bS bT cJ dA] [jk dm g aT aP bi ci iE iD g3] J (fun u m' ag=>u=.int .i64 (fh g x)/\m'=[jk dm g aT aP bi ci iE iD g3]/\J=ag)):
 Fn (a2 Q g0) 83 [.pointer (some ⟨dm,0,none⟩),B2 x bE bx bS bT cJ dA] [jk dm g aT aP bi ci iE iD g3] J (fun u m' ag=>u=.int .i64 (fh g x)/\m'=[jk dm g aT aP bi ci iE iD g3]/\J=ag):=by
 refine Fn.dw (dB Tryz.func83) rfl rfl fun H=>?_;refine rg ?_;refine fG fun bO=>?_;refine U V.a7 ?_;refine bP ?_;refine U V.lp ?_;refine' W.step rfl (.of (ic rfl rfl rfl (alx Q g0) rfl rfl rfl fun c2=>?_));refine fF ?_;refine bu ?_;refine kq [0,3,5] ?_;refine aJ ?_;refine' ae.mi 0 [(14,.bool (decide ((x.k<1\/3<x.k))))] ?Re ?Z7;case Re=>
  refine ae.region ?_;refine U V.bU ?_;refine U V.a9 ?_;refine U V.bm ?_;refine U V.az ?_;refine eu 10 (fun abJ=>?_) fun abJ=>?_
  ·refine a0 ?_;refine a0 ?_;refine a0 ?_;refine U V.bc ?_;refine bu ?_;exact ce
  ·refine bg V.bU ?_;refine bg V.a9 ?_;refine bg V.bm ?_;refine U V.bc ?_;refine bu ?_;exact ce
 case Z7=>
  refine aJ ?_;refine If (fun ng=>?_) fun ng=>?_
  ·refine rg ?_;refine U V.a7 ?_;refine ns ?_;refine ae.ret ?_;refine'⟨.inr rfl,rfl,_,[jk dm g aT aP bi ci iE iD g3],.tmp rfl .nil,(by first|exact .cons_cons _ (mc _)|exact .cons _ (.cons _ (.refl _))),?_⟩;first
    |exact⟨rfl,rfl,rfl⟩
    |(refine⟨?_,rfl,rfl⟩
      unfold fh;rw[aq (show ¬x.k=1 by omega),aq (show ¬x.k=2 by omega),aq (show ¬x.k=3 by omega)];rfl)
  ·have aH:1<=x.k/\x.k<=3:=by omega
   refine gn ?_;refine aJ ?_;refine ae.draw rfl (by kernel_rfl) (a8:=[.val 0,.val 1,.val 2,.val 3,.val 4,.val 5,.cv 6,.val 7]) (by kernel_rfl) ?_;refine aB rfl V.bU ?_;refine aB rfl V.a9 ?_;refine aB rfl V.TR ?_;refine' a3.val rfl rfl rfl rfl (ix rfl rfl ?ax (iR (hh rfl) ?ap)) ?_;case ax=>exact qr
   case ap=>exact adh aH
   refine aB rfl V.az ?_;refine aB rfl V.hb ?_;refine' a3.call rfl rfl rfl rfl rfl rfl rfl rfl rfl rfl (a4:=[jk dm g aT aP bi ci iE iD g3]) (b2:=[_,_]) (iB 2 rfl (iB 0 rfl (iB 0 rfl .nil))) trivial (aw aH) ?_;rintro v m' cN hle ⟨rfl,rfl,rfl⟩;refine aB rfl V.a7 ?_;refine a3.nil ?_;refine aJ ?_;refine ae.ret ?_;refine'⟨.inr rfl,rfl,_,[jk dm g aT aP bi ci iE iD g3],.tmp rfl .nil,(by first|exact .cons_cons _ (mc _)|exact .cons _ (.cons _ (.refl _))),?_⟩;first
    |exact⟨rfl,rfl,rfl⟩
    |(refine⟨?_,rfl,rfl⟩
      unfold fh;rw[aq (show ¬x.k=1 by omega),aq (show ¬x.k=2 by omega),aq (show ¬x.k=3 by omega)];rfl)
theorem af'{dm:Nat}{g:bp}{aT bi:Option Addr}{aP ci:Nat}{iE iD g3:Value}{x:cH}{bE bS cJ:Option Addr}{bx bT dA:Nat}(aa:ew J (.slice bE x.af.length bx) x.af)(ab:ew J (.slice bS x.ws.length bT) x.ws)(aK:ew J (.slice cJ x.gw.length dA) x.gw)(k':1<=g.pl)(au:g.pl<=4)(ak:g.is.length<=200)(mw:addrEq bi bi=true):
 Fn (a2 Q g0) 83 [.pointer (some ⟨dm,0,none⟩),B2 x bE bx bS bT cJ dA] [jk dm g aT aP bi ci iE iD g3] J (fun u m' ag=>u=.int .i64 (fh g x)/\m'=[jk dm g aT aP bi ci iE iD g3]/\J=ag):=by
 have aZ:addrEq bE bE=true:=by obtain⟨e,h⟩:=aa;exact h.addr
 have aR:addrEq bS bS=true:=by obtain⟨e,h⟩:=ab;exact h.addr
 have bY:addrEq cJ cJ=true:=by obtain⟨e,h⟩:=aK;exact h.addr
 by_cases a':x.k=1
 ·exact NI aZ aR bY (fun _=>by rw[a'];rfl) (fun _=>Za ab a')
 by_cases bd:x.k=2
 ·exact NI aZ aR bY (fun _=>by rw[bd];rfl) (fun _=>afY bd k' au ak mw)
 ·exact NI aZ aR bY (fun _=>by rw[show x.k=3 by omega];rfl) (fun _=>aaq aK (by omega) au aZ aR bY)
end
theorem fX.tail{α:Type}{J:aA}{e:TypeId}{aj a:Nat}{R:α->List Value->Prop}{w:Value}{xs:List α}{cs:List Value}(aW:a<xs.length)
 (hw:hl J e aj w (((xs.drop a).length:Int) -1).toNat ((cs.drop ((1:Int).toNat*aj)).take ((((xs.drop a).length:Int) -1).toNat*aj)))
 (gB:∀i x,(xs.drop a)[i]?=some x->R x ((cs.drop (i*aj)).take aj)):∃b c,w=.slice b (xs.drop (a+1)).length c/\fX J e aj R (.slice b (xs.drop (a+1)).length c) (xs.drop (a+1)):=by
 have aD:(((xs.drop a).length:Int) -1).toNat=(xs.drop (a+1)).length:=by rw[jJ,jJ];omega
 rw[aD] at hw;obtain⟨b,c,rfl,_⟩:=hw.inv;refine⟨b,c,rfl,⟨_,hw,fun i x I=>?_⟩⟩;have ak:i<(xs.drop (a+1)).length:=(dv.1 I).1;have ab:=gB (i+1) x (by rw[o2] at I ⊢;rw[<-I];congr 1;omega);have hle:i*aj+aj<=(xs.drop (a+1)).length*aj:=by rw[<-pN];exact mD _ ak
 rw[CS,Aq,uN,k4 (by omega),show(1:Int).toNat*aj+i*aj=(i+1)*aj by rw[mC,show(1:Int).toNat=1 from rfl];omega];exact ab
theorem ya{ns:List cH}{f a:Nat}{iQ d:Int}{x:cH}(I:ns[a]?=some x)(h:gL (dW ns f a (d+1)) x.af (a+1)=none):dW ns (f+1) iQ d a=none:=by
 unfold dW;rw[I];simp only;rw[h]
theorem JC{ns:List cH}{f a n:Nat}{iQ d:Int}{x:cH}{es:List fD}(I:ns[a]?=some x)(h:gL (dW ns f a (d+1)) x.af (a+1)=some (n,es)):dW ns (f+1) iQ d a=some (n,(iQ,d,(n:Int) -1)::es):=by
 unfold dW;rw[I];simp only;rw[h]
section
variable {Q:db Tryz.prog}{g0:Nat}{J:aA}
abbrev Cr(a n:Nat):Value:=.slice (some ⟨a,0,none⟩) n n
abbrev vL(a:Nat)(L:List Int):Nat×cI:=(a,.row (L.map (Value.int .i64)) 3)
abbrev Cy(dm hx ad cq:Nat)(g:bp)(aT:Option Addr)(aP:Nat)(bi:Option Addr)(ci:Nat)(P D L:List Int):aI:=[jk dm g aT aP bi ci (Cr hx g.ns.length) (Cr ad g.ns.length) (Cr cq g.ns.length),vL hx P,vL ad D,vL cq L]
def X1(dm hx ad cq:Nat)(g:bp)(aT:Option Addr)(aP:Nat)(bi:Option Addr)(ci:Nat)(a:Nat)(P D L:List Int)(r:Option (Nat×List fD))(J:aA):Value->aI->aA->Prop:=fun u m' ag=>∃b n c ok tc Al bw,u=.tuple #[.slice b n c,.bool ok]/\m'=Cy dm hx ad cq g aT aP bi ci tc Al bw/\J=ag/\tc.length=g.ns.length/\Al.length=g.ns.length/\bw.length=g.ns.length/\
 (match r with
 |none=>ok=false
 |some (b5,es)=>ok=true/\tc=ji P a (es.map fun e=>e.1)/\Al=ji D a (es.map fun e=>e.2.1)/\bw=ji L a (es.map fun e=>e.2.2)/\n=(g.ns.drop b5).length/\fX J 92 6 (mE J) (.slice b (g.ns.drop b5).length c) (g.ns.drop b5))
theorem ak4{g:bp}{aT bi:Option Addr}{aP ci:Nat}{dm hx ad cq:Nat}(ar:hB J g aT aP bi ci)(dr:g.ns.length<=2000)(ay:∀x∈g.ns,x.af.length<=60):∀(f a:Nat) (iQ d:Int) (P D L:List Int) (bv:Option Addr) (eY:Nat),a<=g.ns.length->g.ns.length<a+f->P.length=g.ns.length->D.length=g.ns.length->L.length=g.ns.length->0<=d->d<=a->
 fX J 92 6 (mE J) (.slice bv (g.ns.drop a).length eY) (g.ns.drop a)->
 Fn (a2 Q g0) 84 [.pointer (some ⟨dm,0,none⟩),.int .i64 iQ,.int .i64 d,.slice bv (g.ns.drop a).length eY] (Cy dm hx ad cq g aT aP bi ci P D L) J (X1 dm hx ad cq g aT aP bi ci a P D L (dW g.ns f iQ d a) J):=by
 intro f;induction f with
 |zero=>intro a iQ d P D L bv eY aa ab;omega
 |succ f aG=>
 intro a iQ d P D L bv eY aW aw dC hI bB tS anc p8;have anu:(g.ns.drop a).length=g.ns.length -a:=jJ;have kZ:addrEq bi bi=true:=ar.i.addr;have lj:addrEq aT aT=true:=ar.n.addr;refine Fn.dw (dB Tryz.func84) rfl rfl fun H=>?_;refine rg ?_;refine aV ?_;refine bP ?_;refine aV ?_;refine U V.bm ?_;refine ns ?_;refine If (fun KF=>?_) fun KF=>?_
 ·refine rg ?_;refine aV ?_;refine ns ?_;refine ae.ret ?_;refine'⟨.inr rfl,rfl,_,_,.tmp rfl (.tmp rfl .nil),bV _,?_⟩;first
   |exact⟨_,_,_,_,P,D,L,rfl,rfl,rfl,dC,hI,bB,by rw[show dW g.ns (f+1) iQ d a=none by unfold dW;rw[hg (by omega)]]⟩
   |exact⟨_,_,_,_,j3,ny,fE,rfl,rfl,rfl,tN,tK,tM,by rw[ya qh (wV (k:=k+1) (by rw[u1 gi vH,aF (by omega)]))]⟩
   |exact⟨_,_,_,_,Ay,fk,gF,rfl,rfl,rfl,q6,lU,Ek,by
     have:dW g.ns f a (d+1) cur=none:=by
      cases gP:dW g.ns f a (d+1) cur with
      |none=>rfl
      |some p=>obtain⟨b5,aD⟩:=p;rw[gP] at hm;rw[hm.1] at j9;cases j9
     rw[ya qh (wV (k:=k+1) (by rw[u1 gi vH,this];split<;>rfl))]⟩
   |(refine⟨_,_,_,_,j3,ny,_,rfl,rfl,rfl,tN,tK,?_,?_⟩
     rw[hW];exact tM;rw[fZ (by omega)] at gi;rw[JC qh gi];refine⟨rfl,pe,nL,?_,rfl,Ez⟩;rw[sn,Je (by simp;omega),k2];congr 2;show _=(cur:Int) -1;omega)
 ·have cP:a<g.ns.length:=by omega
  obtain⟨_,ju⟩:=p8.at;obtain⟨lQ,off,cells,bn,rfl,jP,fg⟩:=ju (by omega);obtain⟨x,cs,I,kx,mU,gB⟩:=fg 0 (by omega) (by omega);obtain⟨bE,bx,bS,bT,cJ,dA,rfl,lc,nX,rq⟩:=gB;have zn:=mU 3 _ (by decide) rfl;have qh:g.ns[a]?=some x:=by simpa using I
  have anX:=ay x (cV qh);obtain⟨jL,hR,ack⟩:=p8.ex;have zx:=lc.l6 [];refine gn ?_;refine kq [0,1,2,3] ?_;refine aJ ?_;refine' ae.mi 0 [(10,.int .i64 (a:Int))] ?ZG ?Z8;case ZG=>
   refine ae.region ?_;refine aV ?_;refine U V.a9 ?_;refine aV ?_;refine U V.va ?_;refine U V.a7 ?_;refine bu ?_;exact ce
  case Z8=>
   refine aJ ?_;refine ae.draw rfl (by kernel_rfl) (a8:=[.val 0,.val 1,.val 2,.val 3,.val 4,.val 5,.val 6,.val 7,.val 8,.val 9,.val 10,.val 11,.val 12,.cv 13,.val 14,.c9 [11,9],.cv 15]) (by kernel_rfl) ?_;refine cm ?_;refine aB rfl V.a9 ?_;refine cm ?_;refine aB rfl V.a9 ?_;refine cm ?_;refine aB rfl V.bf ?_;refine' a3.ij rfl rfl (jY rfl rfl rfl rfl (h' rfl) rfl rfl rfl ?aa ?al ?au ?_);case au=>repeat first|exact .head _ _ _ _|apply dc.tail|apply dc.app
   case al=>exact pC a (by omega)
   case aa=>first|rfl|assumption
   refine aB rfl V.bf ?_;refine a3.c9 g7 ?_;refine' a3.ij rfl rfl (jY rfl rfl rfl rfl (h' rfl) rfl rfl rfl ?aa ?al ?au ?_);case au=>repeat first|exact .head _ _ _ _|apply dc.tail|apply dc.app
   case al=>exact pC a (by omega)
   case aa=>first|rfl|assumption
   refine a3.nil ?_;refine rg ?_;refine U V.az ?_;refine' W.step rfl (.of (alf rfl rfl rfl rfl (On Q g0) ?ap ?aH rfl rfl ?bt ?aa ?ab fun W8 aeF=>?_));case ap=>assumption
   case aH=>exact cQ
   case bt=>exact cQ
   case aa=>exact cQ
   case ab=>exact cQ
   obtain⟨jc,jd,rfl,ada⟩:=fX.tail cP aeF ack;refine aV ?_;refine bP ?_;refine U V.az ?_;refine U V.bf ?_;refine U V.bU ?_;refine U V.a9 ?_;refine aV ?_;refine ns ?_;refine ae.block ?_;refine' ae.fy (l':=[(11,.slice (jc) (g.ns.drop (a+1)).length (jd)),(48,.int .i64 ((0):Int)),(0,_),(2,_),(10,_),(46,_),(47,_)]) ⟨?akI,?akU,rfl,rfl,rfl,rfl,rfl,trivial⟩ (bV _) ?_;case akI=>exact ec
   case akU=>exact ec
   refine aJ ?_;refine' ae.cf (fun(cU:Nat×Nat×(List fD)×(Option Addr)×Nat×(List Int)×(List Int)×(List Int))=>match cU with|(k,cur,es,r7,pV,j3,ny,fE)=>⟨[(11,.slice r7 (g.ns.drop cur).length pV),(48,.int .i64 (k:Int))],Cy dm hx ad cq g aT aP bi ci j3 ny fE,J,k<=x.af.length/\gL (dW g.ns f a (d+1)) (x.af.take k) (a+1)=some (cur,es)/\fX J 92 6 (mE J) (.slice r7 (g.ns.drop cur).length pV) (g.ns.drop cur)/\j3=ji P a (iQ::es.map fun e=>e.1)/\ny=ji D a (d::es.map fun e=>e.2.1)/\fE=ji L (a+1) (es.map fun e=>e.2.2),x.af.length -k⟩) ⟨0,a+1,[],jc,jd,P.set a iQ,D.set a d,L⟩ ?al ?cp
   case al=>exact⟨dV _,rfl,ada,V8 (by omega),V8 (by omega),(ah5 _ _).symm⟩
   case cp=>
    rintro⟨k,cur,es,r7,pV,j3,ny,fE⟩ hinv;try simp only at hinv
    obtain⟨aH,gi,Ez,pe,nL,sn⟩:=hinv;refine rg ?_;refine U V.bm ?_;refine ns ?_;refine If (fun KI=>?_) fun KI=>?_
    ·obtain⟨b3,aoc,amg,rfl,mq,adl⟩:=zx (by omega);obtain⟨uC,aeL,gk⟩:=adl k (by omega) (by omega);have vH:x.af[k]?=some uC:=by simpa using aeL
     obtain⟨xd,jv,ov⟩:=AM (fun p q r s=>qD _ _ _ p q r s) gi (by omega);have Bm:(g.ns.drop cur).length=g.ns.length -cur:=jJ;have tN:j3.length=g.ns.length:=by rw[pe,zZ (by simp;omega)];exact dC
     have tK:ny.length=g.ns.length:=by rw[nL,zZ (by simp;omega)];exact hI
     have tM:fE.length=g.ns.length:=by rw[sn,zZ (by simp;omega)];exact bB
     refine gn ?_;refine aJ ?_;refine ae.block ?_;refine rg ?_;refine U V.bf ?_;refine' W.step rfl (Exec.val rfl rfl (ix rfl rfl ?ax (iR (hh rfl) ?ap)) ?_);case ax=>exact mq.sub (fun _ q=>by cases q)
     case ap=>first|rfl|assumption
     refine U V.a7 ?_;refine bP ?_;refine aV ?_;refine U V.a9 ?_;refine aV ?_;refine U V.va ?_;refine U V.bm ?_;refine ns ?_;refine If (fun YS=>?_) fun YS=>?_
     ·refine rg ?_;refine aV ?_;refine ns ?_;refine ae.ret ?_;refine'⟨.inr rfl,rfl,_,_,.tmp rfl (.tmp rfl .nil),bV _,?_⟩;first
        |exact⟨_,_,_,_,P,D,L,rfl,rfl,rfl,dC,hI,bB,by rw[show dW g.ns (f+1) iQ d a=none by unfold dW;rw[hg (by omega)]]⟩
        |exact⟨_,_,_,_,j3,ny,fE,rfl,rfl,rfl,tN,tK,tM,by rw[ya qh (wV (k:=k+1) (by rw[u1 gi vH,aF (by omega)]))]⟩
        |exact⟨_,_,_,_,Ay,fk,gF,rfl,rfl,rfl,q6,lU,Ek,by
          have:dW g.ns f a (d+1) cur=none:=by
           cases gP:dW g.ns f a (d+1) cur with
           |none=>rfl
           |some p=>obtain⟨b5,aD⟩:=p;rw[gP] at hm;rw[hm.1] at j9;cases j9
          rw[ya qh (wV (k:=k+1) (by rw[u1 gi vH,this];split<;>rfl))]⟩
        |(refine⟨_,_,_,_,j3,ny,_,rfl,rfl,rfl,tN,tK,?_,?_⟩
          rw[hW];exact tM;rw[fZ (by omega)] at gi;rw[JC qh gi];refine⟨rfl,pe,nL,?_,rfl,Ez⟩;rw[sn,Je (by simp;omega),k2];congr 2;show _=(cur:Int) -1;omega)
     ·refine aJ ?_;refine ae.skip ?_;refine rg ?_;refine aV ?_;refine U V.va ?_;refine U V.az ?_;refine' W.step rfl (Exec.call rfl rfl rfl rfl rfl rfl rfl (a4:=Cy dm hx ad cq g aT aP bi ci j3 ny fE) (b2:=[]) (.refl _) trivial (aG cur a (d+1) j3 ny fE r7 pV jv (by omega) tN tK tM (by omega) (by omega) Ez) ?_);rintro v m' ag hle ⟨b',n',b1,ok,Ay,fk,gF,rfl,rfl,rfl,q6,lU,Ek,hm⟩;refine aV ?_;refine bP ?_;refine U V.az ?_;refine U V.oL ?_;refine ns ?_;refine If (fun j9=>?_) fun j9=>?_
      ·refine rg ?_;refine aV ?_;refine ns ?_;refine ae.ret ?_;refine'⟨.inr rfl,rfl,_,_,.tmp rfl (.tmp rfl .nil),bV _,?_⟩;first
        |exact⟨_,_,_,_,P,D,L,rfl,rfl,rfl,dC,hI,bB,by rw[show dW g.ns (f+1) iQ d a=none by unfold dW;rw[hg (by omega)]]⟩
        |exact⟨_,_,_,_,j3,ny,fE,rfl,rfl,rfl,tN,tK,tM,by rw[ya qh (wV (k:=k+1) (by rw[u1 gi vH,aF (by omega)]))]⟩
        |exact⟨_,_,_,_,Ay,fk,gF,rfl,rfl,rfl,q6,lU,Ek,by
          have:dW g.ns f a (d+1) cur=none:=by
           cases gP:dW g.ns f a (d+1) cur with
           |none=>rfl
           |some p=>obtain⟨b5,aD⟩:=p;rw[gP] at hm;rw[hm.1] at j9;cases j9
          rw[ya qh (wV (k:=k+1) (by rw[u1 gi vH,this];split<;>rfl))]⟩
        |(refine⟨_,_,_,_,j3,ny,_,rfl,rfl,rfl,tN,tK,?_,?_⟩
          rw[hW];exact tM;rw[fZ (by omega)] at gi;rw[JC qh gi];refine⟨rfl,pe,nL,?_,rfl,Ez⟩;rw[sn,Je (by simp;omega),k2];congr 2;show _=(cur:Int) -1;omega)
      ·obtain⟨b5,aD,gP,vl,ab3,y',rfl,ac'⟩:∃b5 aD,dW g.ns f a (d+1) cur=some (b5,aD)/\Ay=ji j3 cur (aD.map fun e=>e.1)/\fk=ji ny cur (aD.map fun e=>e.2.1)/\gF=ji fE cur (aD.map fun e=>e.2.2)/\n'=(g.ns.drop b5).length/\fX J 92 6 (mE J) (.slice b' (g.ns.drop b5).length b1) (g.ns.drop b5):=by
        cases gP:dW g.ns f a (d+1) cur with
        |none=>rw[gP] at hm;rw[hm] at j9;cases j9
        |some p=>obtain⟨b5,aD⟩:=p;rw[gP] at hm;exact⟨b5,aD,rfl,hm.2⟩
       subst vl;subst ab3;subst y';refine n0 ?_;refine U V.va ?_;refine U V.az ?_;refine bu ?_;refine e2 ⟨k+1,b5,es++aD,b',b1,_,_,_⟩ ?_;refine⟨by omega,by rw[u1 gi vH,aq (by omega),gP],ac',?_,?_,?_⟩;(rw[pe,N8 (by simp;omega) (by simp;omega)];simp);(rw[nL,N8 (by simp;omega) (by simp;omega)];simp);(rw[sn,N8 (by simp;omega) (by simp;omega)];simp)
    ·obtain⟨xd,jv,ov⟩:=AM (fun p q r s=>qD _ _ _ p q r s) gi (by omega);have Bm:(g.ns.drop cur).length=g.ns.length -cur:=jJ;have tN:j3.length=g.ns.length:=by rw[pe,zZ (by simp;omega)];exact dC
     have tK:ny.length=g.ns.length:=by rw[nL,zZ (by simp;omega)];exact hI
     have tM:fE.length=g.ns.length:=by rw[sn,zZ (by simp;omega)];exact bB
     refine aJ ?_;refine ae.exit ?_;refine aJ ?_;refine ae.draw rfl (by kernel_rfl) (a8:=[.val 0,.val 1,.val 2,.val 3,.val 4,.val 5,.val 6,.val 7,.val 8,.val 9,.val 10,.val 11,.val 12,.val 13,.val 14,.val 15,.cv 16]) (by kernel_rfl) ?_;refine cm ?_;refine aB rfl V.a9 ?_;refine cm ?_;refine aB rfl V.a9 ?_;refine cm ?_;refine aB rfl V.va ?_;refine aB rfl V.va ?_;refine aB rfl V.bf ?_;refine' a3.ij rfl rfl (jY rfl rfl rfl rfl (h' rfl) rfl rfl rfl ?aa ?al ?au ?_);case au=>repeat first|exact .head _ _ _ _|apply dc.tail|apply dc.app
     case al=>exact pC a (by omega)
     case aa=>first|rfl|assumption
     refine a3.nil ?_;refine rg ?_;refine aV ?_;refine ns ?_;refine ae.ret ?_;refine'⟨.inr rfl,rfl,_,_,.tmp rfl (.tmp rfl .nil),bV _,?_⟩;first
       |exact⟨_,_,_,_,P,D,L,rfl,rfl,rfl,dC,hI,bB,by rw[show dW g.ns (f+1) iQ d a=none by unfold dW;rw[hg (by omega)]]⟩
       |exact⟨_,_,_,_,j3,ny,fE,rfl,rfl,rfl,tN,tK,tM,by rw[ya qh (wV (k:=k+1) (by rw[u1 gi vH,aF (by omega)]))]⟩
       |exact⟨_,_,_,_,Ay,fk,gF,rfl,rfl,rfl,q6,lU,Ek,by
         have:dW g.ns f a (d+1) cur=none:=by
          cases gP:dW g.ns f a (d+1) cur with
          |none=>rfl
          |some p=>obtain⟨b5,aD⟩:=p;rw[gP] at hm;rw[hm.1] at j9;cases j9
         rw[ya qh (wV (k:=k+1) (by rw[u1 gi vH,this];split<;>rfl))]⟩
       |(refine⟨_,_,_,_,j3,ny,_,rfl,rfl,rfl,tN,tK,?_,?_⟩
         rw[hW];exact tM;rw[fZ (by omega)] at gi;rw[JC qh gi];refine⟨rfl,pe,nL,?_,rfl,Ez⟩;rw[sn,Je (by simp;omega),k2];congr 2;show _=(cur:Int) -1;omega)
end
end
end Go.Opn

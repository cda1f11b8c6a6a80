/- A part of the proof of SampleParts. -/
import Derived.Test.YtdbhjgpppmkagaaGreatCbd
import Derived.Test.YtdbhjgpppmkagaaGreatCax
import Derived.Test.YtdbhjgpppmkagaaGreatCaz
set_option maxRecDepth 100000
set_option maxHeartbeats 4000000
set_option linter.unusedVariables false
set_option linter.unusedSimpArgs false
namespace Go.Opn
noncomputable section
open Go.Cre Go.RowKit Go.Proofs
theorem DZ{g:bp}(h:g.pl<1\/4<g.pl\/g.ns.length<1\/2000<g.ns.length\/200<g.is.length):kR g=2:=by unfold kR;rw[aF h]
theorem DX{g:bp}(h:¬(g.pl<1\/4<g.pl\/g.ns.length<1\/2000<g.ns.length\/200<g.is.length))(ab:n2 g g.ns≠0):kR g=n2 g g.ns:=by unfold kR;rw[aq h,aF ab]
theorem DY{g:bp}(h:¬(g.pl<1\/4<g.pl\/g.ns.length<1\/2000<g.ns.length\/200<g.is.length))(ab:n2 g g.ns=0)(aK:¬∃es,dW g.ns (g.ns.length+1) (-1) 0 0=some (g.ns.length,es)):kR g=9:=by
 unfold kR;rw[aq h,aq (fun q=>q ab)];split
 ·rfl
 ·rename_i n es bh
  rw[aF (fun q=>aK ⟨es,by rw[bh,q]⟩)]
theorem DW{g:bp}(h:¬(g.pl<1\/4<g.pl\/g.ns.length<1\/2000<g.ns.length\/200<g.is.length))(ab:n2 g g.ns=0){es:List fD}(aK:dW g.ns (g.ns.length+1) (-1) 0 0=some (g.ns.length,es))(bh:40<vc es):kR g=5:=by
 unfold kR;rw[aq h,aq (fun q=>q ab),aK];simp only;rw[aq (fun q=>q rfl),aF bh]
theorem D1{g:bp}(h:¬(g.pl<1\/4<g.pl\/g.ns.length<1\/2000<g.ns.length\/200<g.is.length))(ab:n2 g g.ns=0){es:List fD}(aK:dW g.ns (g.ns.length+1) (-1) 0 0=some (g.ns.length,es))(bh:¬40<vc es):kR g=Co g:=by
 unfold kR;rw[aq h,aq (fun q=>q ab),aK];simp only;rw[aq (fun q=>q rfl),aq bh];rfl
theorem N7{L vs:List Int}(h:vs.length=L.length):ji L 0 vs=vs:=by
 unfold ji;rw[Gw,mB,wv (by omega),fb]
section
variable {Q:db Tryz.prog}{g0:Nat}{J:aA}
abbrev JK(dm hx ad cq:Nat)(g:bp)(aT:Option Addr)(aP:Nat)(bi:Option Addr)(ci:Nat)(es:List fD):aI:=Cy dm hx ad cq g aT aP bi ci (es.map fun e=>e.1) (es.map fun e=>e.2.1) (es.map fun e=>e.2.2)
def P'(g:bp)(aT:Option Addr)(aP:Nat)(bi:Option Addr)(ci:Nat)(J:aA):Value->aI->aA->Prop:=fun u m' ag=>J=ag/\∃v,u=.tuple #[v,.int .i64 (kR g)]/\
 (kR g=0->∃es dm hx ad cq,dW g.ns (g.ns.length+1) (-1) 0 0=some (g.ns.length,es)/\v=.pointer (some ⟨dm,0,none⟩)/\m'=JK dm hx ad cq g aT aP bi ci es)
theorem l9{g:bp}{aT bi:Option Addr}{aP ci:Nat}{m':aI}{e:Int}(aa:kR g=e)(ab:e≠0):P' g aT aP bi ci J (qt [.pointer none,.int .i64 e]) m' J:=
 ⟨rfl,_,by rw[aa];rfl,fun q=>absurd (aa.symm.trans q) ab⟩
theorem Xa{g:bp}{aT bi:Option Addr}{aP ci:Nat}(ar:hB J g aT aP bi ci):
 Fn (a2 Q g0) 67 [p0 g aT aP bi ci] [] J (P' g aT aP bi ci J):=by
 obtain⟨_,ky⟩:=ar.n.at;have kZ:addrEq bi bi=true:=ar.i.addr;have lj:addrEq aT aT=true:=ar.n.addr;refine Fn.dw (dB Tryz.func67) rfl rfl fun H=>?_;refine rg ?_;refine fG fun bl=>?_;refine aV ?_;refine bu ?_;refine kq [1] ?_;refine aJ ?_;refine' ae.mi 0 [(35,.bool (decide ((g.pl<1\/4<g.pl\/g.ns.length<1\/2000<g.ns.length\/200<g.is.length))))] ?qY ?sa;case qY=>
  refine ae.region ?_;refine U V.bU ?_;refine U V.a9 ?_;refine U V.bm ?_;refine U V.az ?_;refine eu 13 (fun sj=>?_) fun sj=>?_
  ·refine a0 ?_;refine a0 ?_;refine a0 ?_;refine U V.bc ?_;refine U V.az ?_;refine a0 ?_;refine a0 ?_;refine a0 ?_;refine a0 ?_;refine U V.bc ?_;refine U V.az ?_;refine a0 ?_;refine a0 ?_;refine a0 ?_;refine a0 ?_;refine U V.bc ?_;refine U V.az ?_;refine a0 ?_;refine a0 ?_;refine a0 ?_;refine a0 ?_;refine U V.bc ?_;refine bu ?_;exact ce
  ·refine bg V.bU ?_;refine bg V.a9 ?_;refine bg V.bm ?_;refine U V.bc ?_;refine U V.az ?_;refine eu 18 (fun D8=>?_) fun D8=>?_
   ·refine a0 ?_;refine a0 ?_;refine a0 ?_;refine a0 ?_;refine U V.bc ?_;refine U V.az ?_;refine a0 ?_;refine a0 ?_;refine a0 ?_;refine a0 ?_;refine U V.bc ?_;refine U V.az ?_;refine a0 ?_;refine a0 ?_;refine a0 ?_;refine a0 ?_;refine U V.bc ?_;refine bu ?_;exact ce
   ·refine bg V.bU ?_;refine bg V.a9 ?_;refine bg V.cr ?_;refine bg V.bm ?_;refine U V.bc ?_;refine U V.az ?_;refine eu 24 (fun D6=>?_) fun D6=>?_
    ·refine a0 ?_;refine a0 ?_;refine a0 ?_;refine a0 ?_;refine U V.bc ?_;refine U V.az ?_;refine a0 ?_;refine a0 ?_;refine a0 ?_;refine a0 ?_;refine U V.bc ?_;refine bu ?_;exact ce
    ·refine bg V.bU ?_;refine bg V.a9 ?_;refine bg V.cr ?_;refine bg V.bm ?_;refine U V.bc ?_;refine U V.az ?_;refine eu 30 (fun D7=>?_) fun D7=>?_
     ·refine a0 ?_;refine a0 ?_;refine a0 ?_;refine a0 ?_;refine U V.bc ?_;refine bu ?_;exact ce
     ·refine bg V.bU ?_;refine bg V.a9 ?_;refine bg V.cr ?_;refine bg V.bm ?_;refine U V.bc ?_;refine bu ?_;exact ce
 case sa=>
  refine aJ ?_;refine If (fun h0=>?_) fun h0=>?_
  ·refine rg ?_;refine aV ?_;refine ns ?_;refine ae.ret ?_;refine'⟨.inr rfl,rfl,_,_,.tmp rfl (.tmp rfl .nil),(by first|exact .cons_cons _ (.cons_cons _ (.cons_cons _ (.cons_cons _ (mc _))))|exact mc _),?_⟩;first
    |exact l9 (DZ h0) (by decide)
    |exact l9 ((DX h0 (by rw[um cA I ku];exact ku)).trans (um cA I ku)) ku
    |exact l9 (DY h0 oB (fun q=>yG (cn.1 q))) (by decide)
    |(have pg:=DH (by obtain⟨e,r,aa,_,ab,_⟩:=F1 gP;exact⟨e,r,aa,ab⟩:∃e r,es=e::r/\e.2.1=0)
      first
          |exact l9 (DW h0 oB gP (by rw[pg];exact pT)) (by decide)
          |(have vw:=D1 h0 oB gP (by rw[pg];exact pT)
            rw[<-vw];exact⟨rfl,_,rfl,fun _=>⟨es,_,_,_,_,gP,rfl,rfl⟩⟩))
  ·refine aJ ?_;refine ae.skip ?_;refine rg ?_;refine U V.hb ?_;refine U V.lp ?_;refine fG fun yu=>?_;refine U V.a7 ?_;refine bP ?_;refine U V.bU ?_;refine U V.a9 ?_;refine aV ?_;refine ns ?_;refine ae.block ?_;refine' ae.fy (l':=[(42,.int .i64 ((0):Int)),(1,_),(4,_),(40,_),(41,_)]) ⟨?W8,rfl,rfl,rfl,rfl,trivial⟩ (bV _) ?_;case W8=>exact ec
   refine aJ ?_;refine' ae.cf (fun(i:Nat)=>⟨[(42,.int .i64 (i:Int))],jk yu g aT aP bi ci (.slice none 0 0) (.slice none 0 0) (.slice none 0 0)::[(bl,.row (w9 g aT aP bi ci) 27)],J,i<=g.ns.length/\∀x∈g.ns.take i,fh g x=0,g.ns.length -i⟩) (0) ?al ?cp;case al=>exact⟨dV _,fun x I=>by cases I⟩
   case cp=>
    rintro i hinv;try simp only at hinv
    obtain⟨ak,cA⟩:=hinv;refine rg ?_;refine U V.bm ?_;refine ns ?_;refine If (fun YR=>?_) fun YR=>?_
    ·obtain⟨a,off,cells,bn,rfl,jP,fg⟩:=ky (by omega);obtain⟨x,cs,I,kx,_,gB⟩:=fg i (by omega) (by omega);obtain⟨bE,bx,bS,bT,cJ,dA,rfl,lc,nX,rq⟩:=gB;have aZ:addrEq bE bE=true:=by obtain⟨e,h⟩:=lc;exact h.addr
     have aR:addrEq bS bS=true:=by obtain⟨e,h⟩:=nX;exact h.addr
     have bY:addrEq cJ cJ=true:=by obtain⟨e,h⟩:=rq;exact h.addr
     rw[ea] at I;refine gn ?_;refine aJ ?_;refine ae.block ?_;refine rg ?_;refine U V.bf ?_;refine U V.hb ?_;refine' W.step rfl (.of (ic rfl rfl rfl (yh Q g0) rfl rfl rfl fun cX=>?_));refine fF ?_;refine bP ?_;refine U V.az ?_;refine U V.hb ?_;refine' W.step rfl (Exec.call rfl rfl rfl rfl rfl rfl rfl (a4:=[jk yu g _ _ _ _ _ _ _]) (b2:=[_,_]) (iB 1 rfl (iB 0 rfl (iB 0 rfl .nil))) trivial (af' lc nX rq (by omega) (by omega) (by omega) kZ) ?_);rintro v m' ag hle ⟨rfl,rfl,rfl⟩;refine U V.a7 ?_;refine bP ?_;refine U V.az ?_;refine U V.bm ?_;refine ns ?_;refine If (fun ku=>?_) fun ku=>?_
     ·refine rg ?_;refine aV ?_;refine ns ?_;refine ae.ret ?_;refine'⟨.inr rfl,rfl,_,_,.tmp rfl (.tmp rfl .nil),(by first|exact .cons_cons _ (.cons_cons _ (.cons_cons _ (.cons_cons _ (mc _))))|exact mc _),?_⟩;first
        |exact l9 (DZ h0) (by decide)
        |exact l9 ((DX h0 (by rw[um cA I ku];exact ku)).trans (um cA I ku)) ku
        |exact l9 (DY h0 oB (fun q=>yG (cn.1 q))) (by decide)
        |(have pg:=DH (by obtain⟨e,r,aa,_,ab,_⟩:=F1 gP;exact⟨e,r,aa,ab⟩:∃e r,es=e::r/\e.2.1=0)
          first
             |exact l9 (DW h0 oB gP (by rw[pg];exact pT)) (by decide)
             |(have vw:=D1 h0 oB gP (by rw[pg];exact pT)
               rw[<-vw];exact⟨rfl,_,rfl,fun _=>⟨es,_,_,_,_,gP,rfl,rfl⟩⟩))
     ·refine aJ ?_;refine ae.skip ?_;refine rg ?_;refine U V.va ?_;refine U V.az ?_;refine bu ?_;refine e2 (i+1) ?_ (hm:=.cons_cons _ (.cons _ (.cons_cons _ .slnil)));exact⟨by omega,F0 cA I (uH.1 ku)⟩
    ·have gj:∀x∈g.ns,fh g x=0:=by
        rw[fZ (by omega)] at cA;exact cA
     have oB:=agc gj;have re:∀x∈g.ns,x.af.length<=60:=fun x I=>(UI (gj x I) (by omega)).1;refine aJ ?_;refine ae.exit ?_;refine aJ ?_;refine ae.draw rfl (by kernel_rfl) (a8:=[.val 0,.val 1,.val 2,.val 3,.val 4,.val 5,.f' 6,.val 7,.val 8,.val 9,.f' 10,.val 11,.val 12,.val 13,.f' 14,.val 15,.val 16,.c9 [13,12,11,9,8,7,5,4,3,2,1,0],.cv 17,.val 18,.val 19,.c9 [13,12,11,9,8,7,2,1],.cv 20,.val 21,.val 22,.c9 [13,12,11,2],.cv 23]) (by kernel_rfl) ?_;refine cm ?_;refine aB rfl V.a9 ?_;refine aB rfl V.cr ?_;refine a3.makeSlice rfl rfl rfl rfl rfl rfl rfl (hL Q g0) ?bt ?aa ?ab fun GK=>?_;case bt=>exact cQ
     case aa=>exact cQ
     case ab=>exact cQ
     refine aB rfl V.bU ?_;refine aB rfl V.a9 ?_;refine aB rfl V.cr ?_;refine a3.makeSlice rfl rfl rfl rfl rfl rfl rfl (hL Q g0) ?bt ?aa ?ab fun GL=>?_;case bt=>exact cQ
     case aa=>exact cQ
     case ab=>exact cQ
     refine aB rfl V.bU ?_;refine aB rfl V.a9 ?_;refine aB rfl V.cr ?_;refine a3.makeSlice rfl rfl rfl rfl rfl rfl rfl (hL Q g0) ?bt ?aa ?ab fun GM=>?_;case bt=>exact cQ
     case aa=>exact cQ
     case ab=>exact cQ
     refine cm ?_;refine a3.c9 g7 ?_;refine m6 rfl ?_;refine cm ?_;refine a3.c9 g7 ?_;refine m6 rfl ?_;refine cm ?_;refine a3.c9 g7 ?_;refine m6 rfl ?_;refine a3.nil ?_;rw[yi,ea];refine rg ?_;refine aV ?_;refine U V.a9 ?_;refine' W.step rfl (Exec.call rfl rfl rfl rfl rfl rfl rfl (a4:=Cy yu GK GL GM g aT aP bi ci (List.replicate g.ns.length 0) (List.replicate g.ns.length 0) (List.replicate g.ns.length 0)) (b2:=[_]) (iB 3 rfl (iB 2 rfl (iB 1 rfl (iB 0 rfl (iB 0 rfl .nil))))) trivial (ak4 ar (by omega) re (g.ns.length+1) 0 (-1) 0 _ _ _ aT aP (dV _) (by omega) (kJ) (kJ) (kJ) (by omega) (by omega) ar.n) ?_);rintro v m' ag hle ⟨b',n',b1,ok,Ay,fk,gF,rfl,rfl,rfl,q6,lU,Ek,hm⟩;refine aV ?_;refine bu ?_;have cn:(∃es,dW g.ns (g.ns.length+1) (-1) 0 0=some (g.ns.length,es))↔(ok=true/\n'=0):=by
        cases gP:dW g.ns (g.ns.length+1) (-1) 0 0 with
        |none=>rw[gP] at hm;rw[hm];simp
        |some p=>
         obtain⟨b5,aD⟩:=p;rw[gP] at hm;obtain⟨aa,_,_,_,ab,_⟩:=hm;obtain⟨_,aK,_⟩:=qD _ _ _ _ _ _ gP;rw[jJ] at ab;subst aa;constructor
         ·rintro⟨es,q⟩;injection q with q;injection q with aZ aR;exact⟨rfl,by omega⟩
         ·rintro⟨_,q⟩;exact⟨aD,by rw[show b5=g.ns.length by omega]⟩
     refine kq [8,9,4] ?_;refine aJ ?_;refine' ae.mi 2 [(87,.bool (decide ((¬(ok=true/\n'=0)))))] ?ZE ?Z5;case ZE=>
      refine ae.region ?_;refine U V.az ?_;refine U V.oL ?_;refine U V.az ?_;refine eu 83 (fun abE=>?_) fun abE=>?_
      ·
        refine a0 ?_;refine a0 ?_;refine a0 ?_;refine U V.bc ?_;refine bu ?_;exact ce
      ·
        refine bg V.az ?_;refine bg V.cr ?_;refine bg V.bm ?_;refine U V.bc ?_;refine bu ?_;exact ce
     case Z5=>
      refine aJ ?_;refine If (fun yG=>?_) fun yG=>?_
      ·
        refine rg ?_;refine aV ?_;refine ns ?_;refine ae.ret ?_;refine'⟨.inr rfl,rfl,_,_,.tmp rfl (.tmp rfl .nil),(by first|exact .cons_cons _ (.cons_cons _ (.cons_cons _ (.cons_cons _ (mc _))))|exact mc _),?_⟩;first
         |exact l9 (DZ h0) (by decide)
         |exact l9 ((DX h0 (by rw[um cA I ku];exact ku)).trans (um cA I ku)) ku
         |exact l9 (DY h0 oB (fun q=>yG (cn.1 q))) (by decide)
         |(have pg:=DH (by obtain⟨e,r,aa,_,ab,_⟩:=F1 gP;exact⟨e,r,aa,ab⟩:∃e r,es=e::r/\e.2.1=0)
           first
               |exact l9 (DW h0 oB gP (by rw[pg];exact pT)) (by decide)
               |(have vw:=D1 h0 oB gP (by rw[pg];exact pT)
                 rw[<-vw];exact⟨rfl,_,rfl,fun _=>⟨es,_,_,_,_,gP,rfl,rfl⟩⟩))
      ·
        obtain⟨es,gP⟩:=cn.2 (uH.1 yG);rw[gP] at hm;obtain⟨_,_,he⟩:=qD _ _ _ _ _ _ gP;obtain⟨_,rfl,rfl,rfl,_,_⟩:=hm;have dC:ji (List.replicate g.ns.length 0) 0 (es.map fun e=>e.1)=es.map fun e=>e.1:=N7 (by simp[he]);have hI:ji (List.replicate g.ns.length 0) 0 (es.map fun e=>e.2.1)=es.map fun e=>e.2.1:=N7 (by simp[he]);have bB:ji (List.replicate g.ns.length 0) 0 (es.map fun e=>e.2.2)=es.map fun e=>e.2.2:=N7 (by simp[he]);rw[dC,hI,bB];have tT:(es.map fun e=>e.2.1).length=g.ns.length:=by simp[he]
        refine n0 ?_;refine aV ?_;refine U V.a9 ?_;refine' W.step rfl (Exec.call rfl rfl rfl rfl rfl rfl rfl (a4:=JK yu GK GL GM g aT aP bi ci es) (b2:=[_]) (.refl _) trivial ((by have h:=afG (Q:=Q) (g0:=g0) (J:=J) (en:=JK yu GK GL GM g aT aP bi ci es) (l:=es.map fun e=>e.2.1) (c:=g.ns.length) (iH.own (.tail _ (.tail _ (.head _)))) (by omega) (by omega);rw[tT] at h;exact h)) ?_);rintro v m' ag hle ⟨rfl,rfl,rfl⟩;refine U V.bm ?_;refine ns ?_;refine If (fun pT=>?_) fun pT=>?_
        ·refine rg ?_;refine aV ?_;refine ns ?_;refine ae.ret ?_;refine'⟨.inr rfl,rfl,_,_,.tmp rfl (.tmp rfl .nil),(by first|exact .cons_cons _ (.cons_cons _ (.cons_cons _ (.cons_cons _ (mc _))))|exact mc _),?_⟩;first
          |exact l9 (DZ h0) (by decide)
          |exact l9 ((DX h0 (by rw[um cA I ku];exact ku)).trans (um cA I ku)) ku
          |exact l9 (DY h0 oB (fun q=>yG (cn.1 q))) (by decide)
          |(have pg:=DH (by obtain⟨e,r,aa,_,ab,_⟩:=F1 gP;exact⟨e,r,aa,ab⟩:∃e r,es=e::r/\e.2.1=0)
            first
                |exact l9 (DW h0 oB gP (by rw[pg];exact pT)) (by decide)
                |(have vw:=D1 h0 oB gP (by rw[pg];exact pT)
                  rw[<-vw];exact⟨rfl,_,rfl,fun _=>⟨es,_,_,_,_,gP,rfl,rfl⟩⟩))
        ·refine aJ ?_;refine ae.skip ?_;refine rg ?_;refine aV ?_;refine' W.step rfl (Exec.call rfl rfl rfl rfl rfl rfl rfl (a4:=JK yu GK GL GM g aT aP bi ci es) (b2:=[_]) (.refl _) trivial (ai5 ar gj (by omega) (by omega)) ?_);rintro v m' ag hle ⟨rfl,rfl,rfl⟩;refine aV ?_;refine ns ?_;refine ae.ret ?_;refine'⟨.inr rfl,rfl,_,_,.tmp rfl (.tmp rfl .nil),(by first|exact .cons_cons _ (.cons_cons _ (.cons_cons _ (.cons_cons _ (mc _))))|exact mc _),?_⟩;first
          |exact l9 (DZ h0) (by decide)
          |exact l9 ((DX h0 (by rw[um cA I ku];exact ku)).trans (um cA I ku)) ku
          |exact l9 (DY h0 oB (fun q=>yG (cn.1 q))) (by decide)
          |(have pg:=DH (by obtain⟨e,r,aa,_,ab,_⟩:=F1 gP;exact⟨e,r,aa,ab⟩:∃e r,es=e::r/\e.2.1=0)
            first
                |exact l9 (DW h0 oB gP (by rw[pg];exact pT)) (by decide)
                |(have vw:=D1 h0 oB gP (by rw[pg];exact pT)
                  rw[<-vw];exact⟨rfl,_,rfl,fun _=>⟨es,_,_,_,_,gP,rfl,rfl⟩⟩))
theorem abo{g:bp}{aT bi:Option Addr}{aP ci:Nat}(ar:hB J g aT aP bi ci):
 Fn (a2 Q g0) 52 [p0 g aT aP bi ci] [] J (GB (.int .i64 (kR g)) J):=by
 refine Fn.dw (dB Tryz.func52) rfl rfl fun H=>?_;refine rg ?_;refine fG fun bl=>?_;refine U V.a7 ?_;refine bP ?_;refine U V.hb ?_;refine' W.step rfl (Exec.call rfl rfl rfl rfl rfl rfl rfl (a4:=[]) (b2:=[_]) (.refl _) trivial (Xa ar) ?_);rintro v m' ag hle ⟨rfl,w,rfl,_⟩;refine aV ?_;refine bP ?_;refine aV ?_;refine ns ?_;refine ae.ret ?_;refine hk ?_;exact⟨rfl,rfl,aA.le.refl _⟩
end
section
variable {Q:db Tryz.prog}{g0:Nat}{J:aA}
end
end
end Go.Opn
namespace Go.Opn
noncomputable section
open Go.Cre Go.RowKit
theorem RU{α:Type}:∀{l:List (List α)} {j:Nat} {m:List α},l[j]?=some m->l.flatten.Perm (m++(l.eraseIdx j).flatten):=by
 intro l;induction l with
 |nil=>intro j m h;cases h
 |cons x r aG=>
  intro j m h;cases j with
  |zero=>simp at h;subst h;exact .refl _
  |succ j=>
   have:=aG (j:=j) (m:=m) (by simpa using h);show(x++r.flatten).Perm (m++(x++(r.eraseIdx j).flatten));refine(this.append_left x).trans ?_;rw[<-j0,<-j0];exact(jn).append_right _
theorem RV{α:Type}{l:List (List α)}{j:Nat}{m:List α}(h:j<l.length):(l.set j m).flatten.Perm (m++(l.eraseIdx j).flatten):=by
 have aa:(l.set j m)[j]?=some m:=by rw[j1];simp[h]
 have ab:=RU aa;rwa [List.eraseIdx_set_eq] at ab
structure rS (e:TypeId) (ss:List (List Int)) (vs:List Value) (kB:List aI):Prop where
 lv:vs.length=ss.length
 zF:kB.length=ss.length
 at_:∀(j:Nat) (s:List Int) (v:Value) (m:aI),ss[j]?=some s->vs[j]?=some v->kB[j]?=some m->Acc e 1 v s.length (s.map (Value.int .i64)) m
theorem rS.init{e:TypeId}(n:Nat):rS e (List.replicate n []) (List.replicate n (.slice none 0 0)) (List.replicate n []):=by
 refine⟨by simp,by simp,fun j s v m aa ab aK=>?_⟩;rw[Gt] at aa ab aK;split at aa
 ·rename_i q;rw[aF q] at ab aK;injection aa with aa;injection ab with ab;injection aK with aK
  subst aa;subst ab;subst aK;exact .nil
 ·cases aa
theorem abl{α:Type}{n:Nat}:(List.replicate n ([]:List α)).flatten=[]:=by simp
theorem rS.get{e:TypeId}{ss:List (List Int)}{vs:List Value}{kB:List aI}(h:rS e ss vs kB){j:Nat}{s:List Int}(al:ss[j]?=some s):∃v m,vs[j]?=some v/\kB[j]?=some m/\Acc e 1 v s.length (s.map (Value.int .i64)) m:=by
 have aU:j<ss.length:=(dv.1 al).1;have aa:=du (l:=vs) (i:=j) (by rw[h.lv];exact aU);have ab:=du (l:=kB) (i:=j) (by rw[h.zF];exact aU);exact⟨_,_,aa,ab,h.at_ j s _ _ al aa ab⟩
theorem rS.set{e:TypeId}{ss:List (List Int)}{vs:List Value}{kB:List aI}(h:rS e ss vs kB){j:Nat}{s:List Int}{v:Value}{m:aI}(aW:Acc e 1 v s.length (s.map (Value.int .i64)) m):rS e (ss.set j s) (vs.set j v) (kB.set j m):=by
 refine⟨by simp[h.lv],by simp[h.zF],fun i cZ v' m' aa ab aK=>?_⟩;rw[j1] at aa ab aK;split at aa
 ·rename_i q;subst q;rw[aF rfl] at ab aK;split at aa
  ·rename_i aR;rw[aF (by rw[h.lv];exact aR)] at ab;rw[aF (by rw[h.zF];exact aR)] at aK;injection aa with aa;injection ab with ab;injection aK with aK
   subst aa;subst ab;subst aK;exact aW
  ·cases aa
 ·rename_i q;rw[aq q] at ab aK;exact h.at_ i cZ v' m' aa ab aK
theorem Km{α:Type}{x y z:α}{y0 aY E R:List α}(h:y0.Perm (aY++E)):(x::y::z::(y0++R)).Perm (aY++x::y::z::(E++R)):=by
 refine(((((h.append_right R).cons z).cons y).cons x)).trans ?_;rw[j0];exact I7
section
variable {K:eN}{B:dO}{E:b9}{m eA:aI}{J:aA}{cx:Exit->b9->aI->aA->Prop}
theorem ae.ahY{c:Code}{e:TypeId}:∀{kB:List aI} {ss:List (List Int)} {vs:List Value} {m eA:aI} {J:aA},rS e ss vs kB->m.Perm (kB.flatten++eA)->
 (∀ag,J.le ag->(∀(j:Nat) (s:List Int) (v:Value),ss[j]?=some s->vs[j]?=some v->hl ag e 1 v s.length (s.map (Value.int .i64)))->ae K B c E eA ag cx)->ae K B c E m J cx:=by
 intro kB;induction kB with
 |nil=>
  intro ss vs m eA J h hm aH;refine ae.gZ hm.symm (aH J (aA.le.refl _) fun j s v al ap=>?_);have:ss=[]:=qL.1 h.zF.symm;subst this;cases al
 |cons aY r aG=>
  intro ss vs m eA J h hm aH;cases ss with
  |nil=>have:=h.zF;cases this
  |cons s ss=>
   cases vs with
   |nil=>have:=h.lv;cases this
   |cons v vs=>
    have aW:=h.at_ 0 s v aY rfl rfl rfl;have ax:rS e ss vs r:=⟨by simpa using h.lv,by simpa using h.zF,fun j cZ v' m' aa ab aK=>h.at_ (j+1) cZ v' m' (by simpa using aa) (by simpa using ab) (by simpa using aK)⟩;refine aW.l4 (eA:=r.flatten++eA) (by rw[<-j0];exact hm) fun cN eL hR=>?_;refine aG ax (.refl _) fun hs fu cA=>?_;refine aH hs (eL.trans fu) fun j cZ v' aa ab=>?_;cases j with
    |zero=>simp at aa ab;subst aa;subst ab;exact hR.mono fu
    |succ j=>exact cA j cZ v' (by simpa using aa) (by simpa using ab)
end
def k3(J:aA)(s:List Int)(cs:List Value):Prop:=∃b c,cs=[.slice b s.length c]/\ew J (.slice b s.length c) s
theorem k3.mono{J ag:aA}(hle:J.le ag){s:List Int}{cs:List Value}(h:k3 J s cs):k3 ag s cs:=by
 obtain⟨b,c,aa,ab⟩:=h;exact⟨b,c,aa,ab.mono hle⟩
theorem aan{J:aA}{e Rz:TypeId}{a:Nat}{ss:List (List Int)}{vs:List Value}(h:J a=some (vs,e))(ay:vs.length=ss.length)(av:ss.length<cR)(cA:∀(j:Nat) (s:List Int) (v:Value),ss[j]?=some s->vs[j]?=some v->hl J Rz 1 v s.length (s.map (Value.int .i64))):fX J e 1 (k3 J) (.slice (some ⟨a,0,none⟩) ss.length ss.length) ss:=by
 refine⟨vs,.row h (by rw[m7,fZ (by omega)]) (by omega) (fun _=>⟨dH _,av⟩) (fun _=>rfl),fun i s al=>?_⟩;have ak:i<vs.length:=by rw[ay];exact(dv.1 al).1
 have ap:=du ak;have aa:=cA i s _ al ap;obtain⟨b,c,ab,_⟩:=aa.inv;rw[s',od ak,Kc,Gw,ab];rw[ab] at aa;exact⟨b,c,rfl,Rz,aa⟩
end
end Go.Opn
namespace Go.Opn
noncomputable section
open Go.Cre Go.RowKit Go.Proofs
def qy(g:bp)(i:Nat):List (List Int):=(List.range g.is.length).map fun(j:Nat)=>fx (j:Int) 0 (g.ns.take i)
theorem Cp{g:bp}{i:Nat}:(qy g i).length=g.is.length:=by simp[qy]
theorem Ju{g:bp}{i j:Nat}(h:j<g.is.length):(qy g i)[j]?=some (fx (j:Int) 0 (g.ns.take i)):=by
 unfold qy;rw[gG,wz h];rfl
theorem ai4{g:bp}:qy g 0=List.replicate g.is.length []:=by
 apply mb
 intro j;by_cases aU:j<g.is.length
 ·rw[Ju aU,Gt,aF aU];rfl
 ·rw[hg (by rw[Cp];omega),Gt,aq aU]
theorem ai1{g:bp}:qy g g.ns.length=jE g:=by unfold qy jE;rw[Aw]
theorem aiW{j:Int}{x:cH}:∀{l:List cH} {n:Nat},fx j n (l++[x])=fx j n l++(if x.k=2/\x.i=j then[((n+l.length:Nat):Int)] else[]):=by
 intro l;induction l with
 |nil=>intro n;simp only[mB,fx,CT,s9]
 |cons y r aG=>
  intro n;rw[List.cons_append];unfold fx;rw[aG,show n+1+r.length=n+(y::r).length by rw[j2];omega];split<;>rfl
theorem V7{g:bp}{j:Int}{i:Nat}{x:cH}(I:g.ns[i]?=some x):fx j 0 (g.ns.take (i+1))=fx j 0 (g.ns.take i)++(if x.k=2/\x.i=j then[(i:Int)] else[]):=by
 have ak:=(dv.1 I).1;rw[pM,I];show fx j 0 (g.ns.take i++[x])=_;rw[aiW,fc,k4 (by omega),lN]
theorem ai2{g:bp}{i:Nat}{x:cH}(I:g.ns[i]?=some x)(aH:x.k≠2):qy g (i+1)=qy g i:=by
 unfold qy;congr 1
 funext j
 rw[V7 I,aq (fun q=>aH q.1),fb]
theorem ai3{g:bp}{i:Nat}{x:cH}(I:g.ns[i]?=some x)(aH:x.k=2)(bt:0<=x.i)(aa:x.i<g.is.length):qy g (i+1)=(qy g i).set x.i.toNat (fx x.i 0 (g.ns.take i)++[(i:Int)]):=by
 apply mb
 intro j;rw[j1,Cp];by_cases aU:j<g.is.length
 ·rw[Ju aU,Ju aU,V7 I]
  by_cases q:x.i.toNat=j
  ·rw[aF ⟨aH,by omega⟩,aF q,aF (by omega),show(j:Int)=x.i by omega]
  ·rw[aq (fun r=>q (by omega)),aq q,fb]
 ·rw[hg (by rw[Cp];omega),hg (by rw[Cp];omega),aq (by omega)]
theorem V6{j:Int}:∀{l:List cH} {n:Nat},(fx j n l).length<=l.length:=by
 intro l;induction l with
 |nil=>intro n;exact dH _
 |cons y r aG=>
  intro n;have:=aG (n:=n+1);unfold fx;split<;>(simp only[j2];omega)
section
variable {Q:db Tryz.prog}{g0:Nat}{J:aA}
end
theorem agi{l:List Value}{j k:Nat}{v:Value}(h:l[j]?=some v)(aH:k=j:=by omega):nth l k=some v:=by subst aH;rw[kk];exact h
theorem ajh{l:List Value}{j k:Nat}{v:Value}(h:j<l.length)(aH:k=j:=by omega):gE k l [v]=some (l.set j v):=by
 subst aH;rw[z7 _ _ _ (by simp;omega),Kb,aF h];simp
section
variable {Q:db Tryz.prog}{g0:Nat}{J:aA}
end
theorem ac4{s:List Int}{x:Int}(h:s[0]?=some x):nP s=x:=by
 cases s with
 |nil=>cases h
 |cons y r=>simp at h;subst h;rfl
section
variable {Q:db Tryz.prog}{g0:Nat}{J:aA}
end
section
variable {Q:db Tryz.prog}{g0:Nat}{J:aA}
structure ti (J:aA) (dm hx ad cq:Nat) (g:bp) (aT:Option Addr) (aP:Nat) (bi:Option Addr) (ci:Nat) (P:List Int):Prop where
 w:J dm=some (W' g aT aP bi ci (Cr hx g.ns.length) (Cr ad g.ns.length) (Cr cq g.ns.length),149)
 p:J hx=some (P.map (Value.int .i64),3)
theorem ti.mono{J ag:aA}(hle:J.le ag){dm hx ad cq:Nat}{g:bp}{aT bi:Option Addr}{aP ci:Nat}{P:List Int}(h:ti J dm hx ad cq g aT aP bi ci P):ti ag dm hx ad cq g aT aP bi ci P:=⟨hle _ _ h.w,hle _ _ h.p⟩
theorem Qc{σ:Type}{step:σ->Nat->Int->σ×Bool}{mF:Nat->σ->aI->Prop}{dm hx ad cq:Nat}{g:bp}{aT bi:Option Addr}{aP ci:Nat}{P:List Int}{w8:FuncId}{cap:Array Value}{p:Int}{gV:Nat}{xX:σ}{eA:aI}
 (ar:hB J g aT aP bi ci)(hw:ti J dm hx ad cq g aT aP bi ci P)(aN:Tree g P)(dr:g.ns.length<=2000)(re:∀x∈g.ns,x.af.length<=60)
 (Bp:∀(c a:Nat) s az,a<c->mF c s az->mF a s az)
 (ap:∀(c a:Nat) s az k,a<c->c<g.ns.length->mF c s az->Fn (a2 Q g0) w8 (.int .i64 (a:Int)::.int .i64 k::cap.toList) az J (fun u m' ag=>J=ag/\u=.bool (step s a k).2/\mF a (step s a k).1 m'))
 (k8:gV<g.ns.length)(bt:mF gV xX eA):
 Fn (a2 Q g0) 89 [.pointer (some ⟨dm,0,none⟩),.int .i64 (gV:Int),.int .i64 p,.func (.func w8) #[] cap] eA J (fun u m' ag=>J=ag/\∃c,mF c (yc step xX (oI g P p gV)) m'):=by
 obtain⟨_,ky⟩:=ar.n.at;have kZ:addrEq bi bi=true:=ar.i.addr;have xy:=hw.w;have anW:=hw.p;have dq:=aN.len;have fg:∀c:Nat,c<g.ns.length->∃a,P[c]?=some a/\nth (P.map (Value.int .i64)) (0+c*1)=some (.int .i64 a)/\-1<=a/\a<g.ns.length:=fun c av=>by
  by_cases q:c=0
  ·subst q;exact⟨-1,aN.root,NM 0 aN.root,by omega,by omega⟩
  ·obtain⟨a,aa,ab,_⟩:=aN.up c (by omega) av
   exact⟨a,aa,NM c aa,by omega,by omega⟩
 obtain⟨lQ,acz,jy,Eu,acA⟩:=fg gV k8;refine Fn.dw (dB Tryz.func89) rfl rfl fun H=>?_;refine rg ?_;refine aV ?_;refine U V.a9 ?_;refine U V.az ?_;refine U V.bf ?_;refine U V.a9 ?_;refine U V.a7 ?_;refine ns ?_;refine ae.block ?_;refine' ae.fy (l':=[(1,.int .i64 ((gV):Int)),(8,.int .i64 (lQ)),(0,_),(2,_),(3,_)]) ⟨?d',?Af,rfl,rfl,rfl,trivial⟩ (bV _) ?_;case d'=>exact ec
 case Af=>exact ec
 refine aJ ?_;refine' ae.cf (fun(cU:Nat×Int×σ×aI)=>match cU with|(c,at_,s1,ct)=>⟨[(1,.int .i64 (c:Int)),(8,.int .i64 at_)],ct,J,c<g.ns.length/\P[c]?=some at_/\-1<=at_/\at_<g.ns.length/\mF c s1 ct/\yc step xX (oI g P p gV)=yc step s1 (oI g P p c),c⟩) ⟨gV,lQ,xX,eA⟩ ?al ?cp
 case al=>exact⟨k8,acz,Eu,acA,bt,rfl⟩
 case cp=>
  rintro⟨c,at_,s1,ct⟩ hinv;try simp only at hinv
  obtain⟨av,ju,HM,HN,nV,qf⟩:=hinv;refine rg ?_;refine U V.az ?_;refine U V.bm ?_;refine ns ?_;refine If (fun uX=>?_) fun uX=>?_
  ·obtain⟨a,sr,q7,y,ah,ri⟩:=aN.up c (by by_cases q:c=0;(subst q;rw[aN.root] at ju;injection ju with ju;omega);omega) av;rw[ju] at sr;injection sr with sr;subst sr
   obtain⟨b,ai,zt,kT,kw⟩:=fg a (by omega);obtain⟨a1,off,cells,bn,rfl,jP,tV⟩:=ky (by omega);obtain⟨jZ,cs,ld,kx,_,gB⟩:=tV a (by omega) (by omega);obtain⟨bE,bx,bS,bT,cJ,dA,rfl,lc,nX,rq⟩:=gB;rw[ea,ah] at ld;injection ld with ld;subst ld
   have amS:=re y (cV ah);refine gn ?_;refine aJ ?_;refine ae.block ?_;refine rg ?_;refine aV ?_;refine U V.a9 ?_;refine U V.az ?_;refine U V.bf ?_;refine U V.hb ?_;refine' W.step rfl (.of (ic rfl rfl rfl (yh Q g0) rfl rfl rfl fun gx=>?_));refine fF ?_;refine bP ?_;refine U V.bU ?_;refine U V.a9 ?_;refine U V.bm ?_;refine U V.az ?_;refine eu 38 (fun ot=>?_) fun ot=>?_
   ·refine bg V.bU ?_;refine bg V.a9 ?_;refine bg V.az ?_;refine bg V.bm ?_;refine U V.bc ?_;refine U V.az ?_;refine eu 44 (fun q5=>?_) fun q5=>?_
    ·refine bg V.az ?_;refine bg V.az ?_;refine bg V.bU ?_;refine bg V.a9 ?_;refine bg V.az ?_;refine' W.sk rfl rfl rfl (Exec.call rfl rfl rfl rfl rfl rfl rfl (a4:=[]) (b2:=_) (.refl _) trivial (TW (en:=[]) (lc.l6 []) (by omega)) ?_);rintro v m' ag hle ⟨rfl,rfl,rfl⟩;rw[mB];refine' W.sk rfl rfl rfl (Exec.call rfl rfl rfl rfl rfl rfl rfl (a4:=ct) (b2:=[_]) (Ka _ _) trivial (ap c a s1 ct _ (by omega) av nV) ?_);rintro v eM ag hle ⟨rfl,rfl,qe⟩;refine bg V.oL ?_;refine U V.bc ?_;refine ns ?_;refine If (fun AI=>?_) fun AI=>?_
     ·refine aJ ?_;refine ae.ret ?_;refine'⟨.inr rfl,rfl,_,_,.nil,(by first|exact oh _ _|exact bV _),?_⟩;first
       |(have qw:=qe
         refine⟨rfl,a,?_⟩;rw[qf,B1 ju (by omega) ah ⟨ot,q5⟩];show mF _ (if _=true then _ else _) _;rw[aq (by simpa using AI)];exact qe)
       |(refine⟨rfl,c,?_⟩
         rw[qf,NB ju (by omega)];exact nV)
     ·refine aJ ?_;refine ae.skip ?_;refine aJ ?_;refine ae.draw rfl (by kernel_rfl) (a8:=[.val 0,.val 1,.val 2,.val 3,.val 4,.val 5,.val 6,.val 7,.val 8,.cv 9]) (by kernel_rfl) ?_;refine cm ?_;refine aB rfl V.a9 ?_;refine aB rfl V.az ?_;refine aB rfl V.bf ?_;refine aB rfl V.a9 ?_;refine aB rfl V.a7 ?_;refine Gl rfl V.a7 ?_;refine a3.nil ?_;refine e2 ⟨a,b,(by first|(have qw:=qe;exact(step s1 a (lf (c:Int) y.af 0)).1)|exact s1),_⟩ ?_ (hm:=(by first|exact oh _ _|exact .cons _ (.refl _)));first|(have qw:=qe;exact⟨by omega,ai,kT,kw,qe,by rw[qf,B1 ju (by omega) ah ⟨ot,q5⟩];show(if _=true then _ else _)=_;rw[aF (by simpa using AI)]⟩)|(have qw:=q5;exact⟨by omega,ai,kT,kw,Bp c a _ _ (by omega) nV,by rw[qf,zL ju (by omega) ah (fun q=>q5 q.2)]⟩)|exact⟨by omega,ai,kT,kw,Bp c a _ _ (by omega) nV,by rw[qf,zL ju (by omega) ah (fun q=>ot q.1)]⟩
    ·refine a0 ?_;refine a0 ?_;refine a0 ?_;refine a0 ?_;refine a0 ?_;refine W.p2 rfl rfl rfl rfl rfl ?_;refine W.p2 rfl rfl rfl rfl rfl ?_;refine a0 ?_;refine U V.bc ?_;refine ns ?_;refine ae.u4 rfl ?_;refine gn ?_;refine aJ ?_;refine ae.draw rfl (by kernel_rfl) (a8:=[.val 0,.val 1,.val 2,.val 3,.val 4,.val 5,.val 6,.val 7,.val 8,.cv 9]) (by kernel_rfl) ?_;refine cm ?_;refine aB rfl V.a9 ?_;refine aB rfl V.az ?_;refine aB rfl V.bf ?_;refine aB rfl V.a9 ?_;refine aB rfl V.a7 ?_;refine Gl rfl V.a7 ?_;refine a3.nil ?_;refine e2 ⟨a,b,(by first|(have qw:=qe;exact(step s1 a (lf (c:Int) y.af 0)).1)|exact s1),_⟩ ?_ (hm:=(by first|exact oh _ _|exact .cons _ (.refl _)));first|(have qw:=qe;exact⟨by omega,ai,kT,kw,qe,by rw[qf,B1 ju (by omega) ah ⟨ot,q5⟩];show(if _=true then _ else _)=_;rw[aF (by simpa using AI)]⟩)|(have qw:=q5;exact⟨by omega,ai,kT,kw,Bp c a _ _ (by omega) nV,by rw[qf,zL ju (by omega) ah (fun q=>q5 q.2)]⟩)|exact⟨by omega,ai,kT,kw,Bp c a _ _ (by omega) nV,by rw[qf,zL ju (by omega) ah (fun q=>ot q.1)]⟩
   ·refine a0 ?_;refine a0 ?_;refine a0 ?_;refine a0 ?_;refine U V.bc ?_;refine U V.az ?_;refine a0 ?_;refine a0 ?_;refine a0 ?_;refine a0 ?_;refine a0 ?_;refine W.p2 rfl rfl rfl rfl rfl ?_;refine W.p2 rfl rfl rfl rfl rfl ?_;refine a0 ?_;refine U V.bc ?_;refine ns ?_;refine ae.u4 rfl ?_;refine gn ?_;refine aJ ?_;refine ae.draw rfl (by kernel_rfl) (a8:=[.val 0,.val 1,.val 2,.val 3,.val 4,.val 5,.val 6,.val 7,.val 8,.cv 9]) (by kernel_rfl) ?_;refine cm ?_;refine aB rfl V.a9 ?_;refine aB rfl V.az ?_;refine aB rfl V.bf ?_;refine aB rfl V.a9 ?_;refine aB rfl V.a7 ?_;refine Gl rfl V.a7 ?_;refine a3.nil ?_;refine e2 ⟨a,b,(by first|(have qw:=qe;exact(step s1 a (lf (c:Int) y.af 0)).1)|exact s1),_⟩ ?_ (hm:=(by first|exact oh _ _|exact .cons _ (.refl _)));first|(have qw:=qe;exact⟨by omega,ai,kT,kw,qe,by rw[qf,B1 ju (by omega) ah ⟨ot,q5⟩];show(if _=true then _ else _)=_;rw[aF (by simpa using AI)]⟩)|(have qw:=q5;exact⟨by omega,ai,kT,kw,Bp c a _ _ (by omega) nV,by rw[qf,zL ju (by omega) ah (fun q=>q5 q.2)]⟩)|exact⟨by omega,ai,kT,kw,Bp c a _ _ (by omega) nV,by rw[qf,zL ju (by omega) ah (fun q=>ot q.1)]⟩
  ·refine aJ ?_;refine ae.exit ?_;refine'⟨.inl rfl,rfl,_,_,.nil,(by first|exact oh _ _|exact bV _),?_⟩;first
    |(have qw:=qe
      refine⟨rfl,a,?_⟩;rw[qf,B1 ju (by omega) ah ⟨ot,q5⟩];show mF _ (if _=true then _ else _) _;rw[aq (by simpa using AI)];exact qe)
    |(refine⟨rfl,c,?_⟩
      rw[qf,NB ju (by omega)];exact nV)
end
end
end Go.Opn

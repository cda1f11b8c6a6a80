/- A part of the proof of ResumeBytes. -/
import Derived.Test.YtkmfhjilfjecmaaGreatDoorCbc
set_option maxRecDepth 100000
set_option maxHeartbeats 4000000
set_option linter.unusedVariables false
set_option linter.unusedSimpArgs false
namespace Go.Opn
noncomputable section
open Go.Cre Go.RowKit Go.Proofs
theorem qf{g:bq}(h:g.pl<1\/4<g.pl\/g.ns.length<1\/2000<g.ns.length\/200<g.is.length):h8 g=2:=by unfold h8;rw[aE h]
theorem DT{g:bq}(h:¬(g.pl<1\/4<g.pl\/g.ns.length<1\/2000<g.ns.length\/200<g.is.length))(ae:pc g g.ns≠0):h8 g=pc g g.ns:=by unfold h8;rw[an h,aE ae]
theorem sF{g:bq}(h:¬(g.pl<1\/4<g.pl\/g.ns.length<1\/2000<g.ns.length\/200<g.is.length))(ae:pc g g.ns=0)(aF:¬∃es,dN g.ns (g.ns.length+1) (-1) 0 0=some (g.ns.length,es)):h8 g=9:=by
 unfold h8;rw[an h,an (fun q=>q ae)];split
 ·rfl
 ·rename_i n es bo
  rw[aE (fun q=>aF ⟨es,by rw[bo,q]⟩)]
theorem qe{g:bq}(h:¬(g.pl<1\/4<g.pl\/g.ns.length<1\/2000<g.ns.length\/200<g.is.length))(ae:pc g g.ns=0){es:List gu}(aF:dN g.ns (g.ns.length+1) (-1) 0 0=some (g.ns.length,es))(bo:40<rj es):h8 g=5:=by
 unfold h8;rw[an h,an (fun q=>q ae),aF];simp only;rw[an (fun q=>q rfl),aE bo]
theorem qg{g:bq}(h:¬(g.pl<1\/4<g.pl\/g.ns.length<1\/2000<g.ns.length\/200<g.is.length))(ae:pc g g.ns=0){es:List gu}(aF:dN g.ns (g.ns.length+1) (-1) 0 0=some (g.ns.length,es))(bo:¬40<rj es):h8 g=pV g:=by
 unfold h8;rw[an h,an (fun q=>q ae),aF];simp only;rw[an (fun q=>q rfl),an bo];rfl
theorem Rj{L vs:List Int}(h:vs.length=L.length):jR L 0 vs=vs:=by
 unfold jR;rw[JP,k2,Av (by omega),gj]
section
variable {Q:dD Tryz.prog}{g0:Nat}{J:aH}
abbrev MD(db dc ad cj:Nat)(g:bq)(aT:Option Addr)(aQ:Nat)(aK:Option Addr)(ci:Nat)(es:List gu):aN:=Fo db dc ad cj g aT aQ aK ci (es.map fun e=>e.1) (es.map fun e=>e.2.1) (es.map fun e=>e.2.2)
def SY(g:bq)(aT:Option Addr)(aQ:Nat)(aK:Option Addr)(ci:Nat)(J:aH):Value->aN->aH->Prop:=fun u m' af=>J=af/\∃v,u=.tuple #[v,.int .i64 (h8 g)]/\
 (h8 g=0->∃es db dc ad cj,dN g.ns (g.ns.length+1) (-1) 0 0=some (g.ns.length,es)/\v=.pointer (some ⟨db,0,none⟩)/\m'=MD db dc ad cj g aT aQ aK ci es)
theorem mN{g:bq}{aT aK:Option Addr}{aQ ci:Nat}{m':aN}{e:Int}(aa:h8 g=e)(ae:e≠0):SY g aT aQ aK ci J (qC [.pointer none,.int .i64 e]) m' J:=
 ⟨rfl,_,by rw[aa];rfl,fun q=>absurd (aa.symm.trans q) ae⟩
theorem aaw{g:bq}{aT aK:Option Addr}{aQ ci:Nat}(aq:fH J g aT aQ aK ci):
 Fn (bd Q g0) 49 [hb g aT aQ aK ci] [] J (SY g aT aQ aK ci J):=by
 obtain⟨_,fE⟩:=aq.n.at;have fX:addrEq aK aK=true:=aq.i.addr;have gq:addrEq aT aT=true:=aq.n.addr;refine Fn.cH (cM Tryz.func49) rfl rfl fun H=>?_;refine rg ?_;refine dK fun bm=>?_;refine aM ?_;refine a6 ?_;refine fR [1] ?_;refine aj ?_;refine' ab.hl 0 [(35,.bool (decide ((g.pl<1\/4<g.pl\/g.ns.length<1\/2000<g.ns.length\/200<g.is.length))))] ?mW ?n7;case mW=>
  refine ab.region ?_;refine I V.ba ?_;refine I V.aG ?_;refine I V.aZ ?_;refine I V.ag ?_;refine dr 13 (fun n'=>?_) fun n'=>?_
  ·refine ah ?_;refine ah ?_;refine ah ?_;refine I V.aU ?_;refine I V.ag ?_;refine ah ?_;refine ah ?_;refine ah ?_;refine ah ?_;refine I V.aU ?_;refine I V.ag ?_;refine ah ?_;refine ah ?_;refine ah ?_;refine ah ?_;refine I V.aU ?_;refine I V.ag ?_;refine ah ?_;refine ah ?_;refine ah ?_;refine ah ?_;refine I V.aU ?_;refine a6 ?_;exact ce
  ·refine aX V.ba ?_;refine aX V.aG ?_;refine aX V.aZ ?_;refine I V.aU ?_;refine I V.ag ?_;refine dr 18 (fun xn=>?_) fun xn=>?_
   ·refine ah ?_;refine ah ?_;refine ah ?_;refine ah ?_;refine I V.aU ?_;refine I V.ag ?_;refine ah ?_;refine ah ?_;refine ah ?_;refine ah ?_;refine I V.aU ?_;refine I V.ag ?_;refine ah ?_;refine ah ?_;refine ah ?_;refine ah ?_;refine I V.aU ?_;refine a6 ?_;exact ce
   ·refine aX V.ba ?_;refine aX V.aG ?_;refine aX V.bL ?_;refine aX V.aZ ?_;refine I V.aU ?_;refine I V.ag ?_;refine dr 24 (fun A8=>?_) fun A8=>?_
    ·refine ah ?_;refine ah ?_;refine ah ?_;refine ah ?_;refine I V.aU ?_;refine I V.ag ?_;refine ah ?_;refine ah ?_;refine ah ?_;refine ah ?_;refine I V.aU ?_;refine a6 ?_;exact ce
    ·refine aX V.ba ?_;refine aX V.aG ?_;refine aX V.bL ?_;refine aX V.aZ ?_;refine I V.aU ?_;refine I V.ag ?_;refine dr 30 (fun A9=>?_) fun A9=>?_
     ·refine ah ?_;refine ah ?_;refine ah ?_;refine ah ?_;refine I V.aU ?_;refine a6 ?_;exact ce
     ·refine aX V.ba ?_;refine aX V.aG ?_;refine aX V.bL ?_;refine aX V.aZ ?_;refine I V.aU ?_;refine a6 ?_;exact ce
 case n7=>
  refine aj ?_;refine If (fun hX=>?_) fun hX=>?_
  ·refine rg ?_;refine aM ?_;refine ns ?_;refine ab.ret ?_;refine'⟨.inr rfl,rfl,_,_,.tmp rfl (.tmp rfl .nil),(by first|exact .cons_cons _ (.cons_cons _ (.cons_cons _ (.cons_cons _ (h5 _))))|exact h5 _),?_⟩;first
    |exact mN (qf hX) (by decide)
    |exact mN ((DT hX (by rw[s5 bx U j'];exact j')).trans (s5 bx U j')) j'
    |exact mN (sF hX gL (fun q=>tA (c8.1 q))) (by decide)
    |(have qk:=GC (by obtain⟨e,r,aa,_,ae,_⟩:=Je ee;exact⟨e,r,aa,ae⟩:∃e r,es=e::r/\e.2.1=0)
      first
          |exact mN (qe hX gL ee (by rw[qk];exact tC)) (by decide)
          |(have xH:=qg hX gL ee (by rw[qk];exact tC)
            rw[<-xH];exact⟨rfl,_,rfl,fun _=>⟨es,_,_,_,_,ee,rfl,rfl⟩⟩))
  ·refine aj ?_;refine ab.skip ?_;refine rg ?_;refine I V.c9 ?_;refine I V.jl ?_;refine dK fun p8=>?_;refine I V.az ?_;refine bi ?_;refine I V.ba ?_;refine I V.aG ?_;refine aM ?_;refine ns ?_;refine ab.block ?_;refine' ab.c0 (l':=[(42,.int .i64 ((0):Int)),(1,_),(4,_),(40,_),(41,_)]) ⟨?aas,rfl,rfl,rfl,rfl,trivial⟩ (bu _) ?_;case aas=>exact bP
   refine aj ?_;refine' ab.dF (fun(i:Nat)=>⟨[(42,.int .i64 (i:Int))],jT p8 g aT aQ aK ci (.slice none 0 0) (.slice none 0 0) (.slice none 0 0)::[(bm,.row (iw g aT aQ aK ci) 27)],J,i<=g.ns.length/\∀x∈g.ns.take i,eu g x=0,g.ns.length -i⟩) (0) ?hs ?bA;case hs=>exact⟨cy _,fun x U=>by cases U⟩
   case bA=>
    rintro i hinv;try simp only at hinv
    obtain⟨ao,bx⟩:=hinv;refine rg ?_;refine I V.aZ ?_;refine ns ?_;refine If (fun acr=>?_) fun acr=>?_
    ·obtain⟨a,off,cells,bz,rfl,mC,ec⟩:=fE (by omega);obtain⟨x,cs,U,gU,_,ei⟩:=ec i (by omega) (by omega);obtain⟨b1,c1,b2,c2,b3,c3,rfl,eG,gM,gA⟩:=ei;have bb:addrEq b1 b1=true:=by obtain⟨e,h⟩:=eG;exact h.addr
     have a7:addrEq b2 b2=true:=by obtain⟨e,h⟩:=gM;exact h.addr
     have b8:addrEq b3 b3=true:=by obtain⟨e,h⟩:=gA;exact h.addr
     rw[cx] at U;refine c7 ?_;refine aj ?_;refine ab.block ?_;refine rg ?_;refine I V.aW ?_;refine I V.c9 ?_;refine' W.step rfl (.of (eT rfl rfl rfl (oB Q g0) rfl rfl rfl fun da=>?_));refine dC ?_;refine bi ?_;refine I V.ag ?_;refine I V.c9 ?_;refine' W.step rfl (Exec.call rfl rfl rfl rfl rfl rfl rfl (bf:=[jT p8 g _ _ _ _ _ _ _]) (bM:=[_,_]) (fN 1 rfl (fN 0 rfl (fN 0 rfl .nil))) trivial (alz eG gM gA (by omega) (by omega) (by omega) fX) ?_);rintro v m' af hle ⟨rfl,rfl,rfl⟩;refine I V.az ?_;refine bi ?_;refine I V.ag ?_;refine I V.aZ ?_;refine ns ?_;refine If (fun j'=>?_) fun j'=>?_
     ·refine rg ?_;refine aM ?_;refine ns ?_;refine ab.ret ?_;refine'⟨.inr rfl,rfl,_,_,.tmp rfl (.tmp rfl .nil),(by first|exact .cons_cons _ (.cons_cons _ (.cons_cons _ (.cons_cons _ (h5 _))))|exact h5 _),?_⟩;first
        |exact mN (qf hX) (by decide)
        |exact mN ((DT hX (by rw[s5 bx U j'];exact j')).trans (s5 bx U j')) j'
        |exact mN (sF hX gL (fun q=>tA (c8.1 q))) (by decide)
        |(have qk:=GC (by obtain⟨e,r,aa,_,ae,_⟩:=Je ee;exact⟨e,r,aa,ae⟩:∃e r,es=e::r/\e.2.1=0)
          first
             |exact mN (qe hX gL ee (by rw[qk];exact tC)) (by decide)
             |(have xH:=qg hX gL ee (by rw[qk];exact tC)
               rw[<-xH];exact⟨rfl,_,rfl,fun _=>⟨es,_,_,_,_,ee,rfl,rfl⟩⟩))
     ·refine aj ?_;refine ab.skip ?_;refine rg ?_;refine I V.bt ?_;refine I V.ag ?_;refine a6 ?_;refine cB (i+1) ?_ (hm:=.cons_cons _ (.cons _ (.cons_cons _ .slnil)));exact⟨by omega,te bx U (gQ.1 j')⟩
    ·have fB:∀x∈g.ns,eu g x=0:=by
        rw[eo (by omega)] at bx;exact bx
     have gL:=X2 fB;have nO:∀x∈g.ns,x.ak.length<=60:=fun x U=>(ES (fB x U) (by omega)).1;refine aj ?_;refine ab.exit ?_;refine aj ?_;refine ab.draw rfl (by kernel_rfl) (bc:=[.val 0,.val 1,.val 2,.val 3,.val 4,.val 5,.gk 6,.val 7,.val 8,.val 9,.gk 10,.val 11,.val 12,.val 13,.gk 14,.val 15,.val 16,.cA [13,12,11,9,8,7,5,4,3,2,1,0],.bR 17,.val 18,.val 19,.cA [13,12,11,9,8,7,2,1],.bR 20,.val 21,.val 22,.cA [13,12,11,2],.bR 23]) (by kernel_rfl) ?_;refine cq ?_;refine al rfl V.aG ?_;refine al rfl V.bL ?_;refine a8.makeSlice rfl rfl rfl rfl rfl rfl rfl (e0 Q g0) ?bw ?aa ?ae fun a59=>?_;case bw=>exact cc
     case aa=>exact cc
     case ae=>exact cc
     refine al rfl V.ba ?_;refine al rfl V.aG ?_;refine al rfl V.bL ?_;refine a8.makeSlice rfl rfl rfl rfl rfl rfl rfl (e0 Q g0) ?bw ?aa ?ae fun wV=>?_;case bw=>exact cc
     case aa=>exact cc
     case ae=>exact cc
     refine al rfl V.ba ?_;refine al rfl V.aG ?_;refine al rfl V.bL ?_;refine a8.makeSlice rfl rfl rfl rfl rfl rfl rfl (e0 Q g0) ?bw ?aa ?ae fun JZ=>?_;case bw=>exact cc
     case aa=>exact cc
     case ae=>exact cc
     refine cq ?_;refine a8.cA eX ?_;refine kn rfl ?_;refine cq ?_;refine a8.cA eX ?_;refine kn rfl ?_;refine cq ?_;refine a8.cA eX ?_;refine kn rfl ?_;refine a8.nil ?_;rw[yv,cx];refine rg ?_;refine aM ?_;refine I V.aG ?_;refine' W.step rfl (Exec.call rfl rfl rfl rfl rfl rfl rfl (bf:=Fo p8 a59 wV JZ g aT aQ aK ci (List.replicate g.ns.length 0) (List.replicate g.ns.length 0) (List.replicate g.ns.length 0)) (bM:=[_]) (fN 3 rfl (fN 2 rfl (fN 1 rfl (fN 0 rfl (fN 0 rfl .nil))))) trivial (ap5 aq (by omega) nO (g.ns.length+1) 0 (-1) 0 _ _ _ aT aQ (cy _) (by omega) (sc) (sc) (sc) (by omega) (by omega) aq.n) ?_);rintro v m' af hle ⟨b',nR,cd,ok,C3,eQ,gv,rfl,rfl,rfl,xu,ju,Hc,hm⟩;refine aM ?_;refine a6 ?_;have c8:(∃es,dN g.ns (g.ns.length+1) (-1) 0 0=some (g.ns.length,es))↔(ok=true/\nR=0):=by
        cases ee:dN g.ns (g.ns.length+1) (-1) 0 0 with
        |none=>rw[ee] at hm;rw[hm];simp
        |some p=>
         obtain⟨bX,aL⟩:=p;rw[ee] at hm;obtain⟨aa,_,_,_,ae,_⟩:=hm;obtain⟨_,aF,_⟩:=qP _ _ _ _ _ _ ee;rw[ms] at ae;subst aa;constructor
         ·rintro⟨es,q⟩;injection q with q;injection q with bb a7;exact⟨rfl,by omega⟩
         ·rintro⟨_,q⟩;exact⟨aL,by rw[show bX=g.ns.length by omega]⟩
     refine fR [8,9,4] ?_;refine aj ?_;refine' ab.hl 2 [(87,.bool (decide ((¬(ok=true/\nR=0)))))] ?ado ?aea;case ado=>
      refine ab.region ?_;refine I V.ag ?_;refine I V.ou ?_;refine I V.ag ?_;refine dr 83 (fun age=>?_) fun age=>?_
      ·
        refine ah ?_;refine ah ?_;refine ah ?_;refine I V.aU ?_;refine a6 ?_;exact ce
      ·
        refine aX V.ag ?_;refine aX V.bL ?_;refine aX V.aZ ?_;refine I V.aU ?_;refine a6 ?_;exact ce
     case aea=>
      refine aj ?_;refine If (fun tA=>?_) fun tA=>?_
      ·
        refine rg ?_;refine aM ?_;refine ns ?_;refine ab.ret ?_;refine'⟨.inr rfl,rfl,_,_,.tmp rfl (.tmp rfl .nil),(by first|exact .cons_cons _ (.cons_cons _ (.cons_cons _ (.cons_cons _ (h5 _))))|exact h5 _),?_⟩;first
         |exact mN (qf hX) (by decide)
         |exact mN ((DT hX (by rw[s5 bx U j'];exact j')).trans (s5 bx U j')) j'
         |exact mN (sF hX gL (fun q=>tA (c8.1 q))) (by decide)
         |(have qk:=GC (by obtain⟨e,r,aa,_,ae,_⟩:=Je ee;exact⟨e,r,aa,ae⟩:∃e r,es=e::r/\e.2.1=0)
           first
               |exact mN (qe hX gL ee (by rw[qk];exact tC)) (by decide)
               |(have xH:=qg hX gL ee (by rw[qk];exact tC)
                 rw[<-xH];exact⟨rfl,_,rfl,fun _=>⟨es,_,_,_,_,ee,rfl,rfl⟩⟩))
      ·
        obtain⟨es,ee⟩:=c8.2 (gQ.1 tA);rw[ee] at hm;obtain⟨_,_,he⟩:=qP _ _ _ _ _ _ ee;obtain⟨_,rfl,rfl,rfl,_,_⟩:=hm;have dt:jR (List.replicate g.ns.length 0) 0 (es.map fun e=>e.1)=es.map fun e=>e.1:=Rj (by simp[he]);have jt:jR (List.replicate g.ns.length 0) 0 (es.map fun e=>e.2.1)=es.map fun e=>e.2.1:=Rj (by simp[he]);have bS:jR (List.replicate g.ns.length 0) 0 (es.map fun e=>e.2.2)=es.map fun e=>e.2.2:=Rj (by simp[he]);rw[dt,jt,bS];have Bu:(es.map fun e=>e.2.1).length=g.ns.length:=by simp[he]
        refine ln ?_;refine aM ?_;refine I V.aG ?_;refine' W.step rfl (Exec.call rfl rfl rfl rfl rfl rfl rfl (bf:=MD p8 a59 wV JZ g aT aQ aK ci es) (bM:=[_]) (.refl _) trivial ((by have h:=ak5 (Q:=Q) (g0:=g0) (J:=J) (gn:=MD p8 a59 wV JZ g aT aQ aK ci es) (l:=es.map fun e=>e.2.1) (c:=g.ns.length) (jX.own (.tail _ (.tail _ (.head _)))) (by omega) (by omega);rw[Bu] at h;exact h)) ?_);rintro v m' af hle ⟨rfl,rfl,rfl⟩;refine I V.aZ ?_;refine ns ?_;refine If (fun tC=>?_) fun tC=>?_
        ·refine rg ?_;refine aM ?_;refine ns ?_;refine ab.ret ?_;refine'⟨.inr rfl,rfl,_,_,.tmp rfl (.tmp rfl .nil),(by first|exact .cons_cons _ (.cons_cons _ (.cons_cons _ (.cons_cons _ (h5 _))))|exact h5 _),?_⟩;first
          |exact mN (qf hX) (by decide)
          |exact mN ((DT hX (by rw[s5 bx U j'];exact j')).trans (s5 bx U j')) j'
          |exact mN (sF hX gL (fun q=>tA (c8.1 q))) (by decide)
          |(have qk:=GC (by obtain⟨e,r,aa,_,ae,_⟩:=Je ee;exact⟨e,r,aa,ae⟩:∃e r,es=e::r/\e.2.1=0)
            first
                |exact mN (qe hX gL ee (by rw[qk];exact tC)) (by decide)
                |(have xH:=qg hX gL ee (by rw[qk];exact tC)
                  rw[<-xH];exact⟨rfl,_,rfl,fun _=>⟨es,_,_,_,_,ee,rfl,rfl⟩⟩))
        ·refine aj ?_;refine ab.skip ?_;refine rg ?_;refine aM ?_;refine' W.step rfl (Exec.call rfl rfl rfl rfl rfl rfl rfl (bf:=MD p8 a59 wV JZ g aT aQ aK ci es) (bM:=[_]) (.refl _) trivial (aoa aq fB (by omega) (by omega)) ?_);rintro v m' af hle ⟨rfl,rfl,rfl⟩;refine aM ?_;refine ns ?_;refine ab.ret ?_;refine'⟨.inr rfl,rfl,_,_,.tmp rfl (.tmp rfl .nil),(by first|exact .cons_cons _ (.cons_cons _ (.cons_cons _ (.cons_cons _ (h5 _))))|exact h5 _),?_⟩;first
          |exact mN (qf hX) (by decide)
          |exact mN ((DT hX (by rw[s5 bx U j'];exact j')).trans (s5 bx U j')) j'
          |exact mN (sF hX gL (fun q=>tA (c8.1 q))) (by decide)
          |(have qk:=GC (by obtain⟨e,r,aa,_,ae,_⟩:=Je ee;exact⟨e,r,aa,ae⟩:∃e r,es=e::r/\e.2.1=0)
            first
                |exact mN (qe hX gL ee (by rw[qk];exact tC)) (by decide)
                |(have xH:=qg hX gL ee (by rw[qk];exact tC)
                  rw[<-xH];exact⟨rfl,_,rfl,fun _=>⟨es,_,_,_,_,ee,rfl,rfl⟩⟩))
theorem Oa{g:bq}{aT aK:Option Addr}{aQ ci:Nat}(aq:fH J g aT aQ aK ci):
 Fn (bd Q g0) 27 [hb g aT aQ aK ci] [] J (tr (.int .i64 (h8 g)) J):=by
 refine Fn.cH (cM Tryz.func27) rfl rfl fun H=>?_;refine rg ?_;refine dK fun bm=>?_;refine I V.az ?_;refine bi ?_;refine I V.c9 ?_;refine' W.step rfl (Exec.call rfl rfl rfl rfl rfl rfl rfl (bf:=[]) (bM:=[_]) (.refl _) trivial (aaw aq) ?_);rintro v m' af hle ⟨rfl,w,rfl,_⟩;refine aM ?_;refine bi ?_;refine aM ?_;refine ns ?_;refine ab.ret ?_;refine c5 ?_;exact⟨rfl,rfl,aH.le.refl _⟩
end
theorem UV{P:Int->Prop}{l:List Int}{i:Nat}{x:Int}(U:l[i]?=some x)(au:P x):∃w∈l,P w:=⟨x,cb U,au⟩
section
variable {Q:dD Tryz.prog}{g0:Nat}{J:aH}
theorem anO{g:bq}{aT aK:Option Addr}{aQ ci:Nat}{x:cR}{b1 b2 b3:Option Addr}{c1 c2 c3:Nat}(ae:dI J (.slice b2 x.ws.length c2) x.ws)(aF:dI J (.slice b3 x.fF.length c3) x.fF)(au:g.pl<=4)(np:addrEq aK aK=true)(gq:addrEq aT aT=true)(bb:addrEq b1 b1=true):
 Fn (bd Q g0) 73 [hb g aT aQ aK ci,B6 x b1 c1 b2 c2 b3 c3] [] J (fun u m' af=>u=.int .i64 (eu g x)/\m'=[]/\J=af):=by
 have a7:addrEq b2 b2=true:=by obtain⟨e,h⟩:=ae;exact h.addr
 have b8:addrEq b3 b3=true:=by obtain⟨e,h⟩:=aF;exact h.addr
 have pH:=ae.iH [];have HP:=aF.iH [];refine Fn.cH (cM Tryz.func73) rfl rfl fun H=>?_;refine rg ?_;refine dK fun a2=>?_;refine dK fun a3=>?_;refine I V.az ?_;refine bi ?_;refine I V.ba ?_;refine I V.aG ?_;refine ns ?_;refine ab.block ?_;refine rg ?_;refine I V.aZ ?_;refine I V.az ?_;refine ns ?_;refine If (fun dG=>?_) fun dG=>?_
 ·refine fR [3] ?_;refine aj ?_;refine' ab.hl 0 [(45,.bool (decide ((x.p≠0\/x.i≠0\/0<x.fF.length\/x.ak.length<1\/60<x.ak.length\/x.ws.length≠x.ak.length))))] ?tF ?tI;case tF=>
   refine ab.region ?_;refine I V.ba ?_;refine I V.aG ?_;refine I V.aZ ?_;refine I V.ag ?_;refine dr 14 (fun py=>?_) fun py=>?_
   ·refine ah ?_;refine ah ?_;refine ah ?_;refine I V.aU ?_;refine I V.ag ?_;refine ah ?_;refine ah ?_;refine ah ?_;refine ah ?_;refine I V.aU ?_;refine I V.ag ?_;refine ah ?_;refine ah ?_;refine ah ?_;refine ah ?_;refine I V.aU ?_;refine I V.ag ?_;refine ah ?_;refine ah ?_;refine ah ?_;refine ah ?_;refine I V.aU ?_;refine I V.ag ?_;refine ah ?_;refine ah ?_;refine ah ?_;refine ah ?_;refine ah ?_;refine ah ?_;refine ah ?_;refine I V.aU ?_;refine a6 ?_;exact ce
   ·refine aX V.ba ?_;refine aX V.aG ?_;refine aX V.aZ ?_;refine I V.aU ?_;refine I V.ag ?_;refine dr 19 (fun agC=>?_) fun agC=>?_
    ·refine ah ?_;refine ah ?_;refine ah ?_;refine ah ?_;refine I V.aU ?_;refine I V.ag ?_;refine ah ?_;refine ah ?_;refine ah ?_;refine ah ?_;refine I V.aU ?_;refine I V.ag ?_;refine ah ?_;refine ah ?_;refine ah ?_;refine ah ?_;refine I V.aU ?_;refine I V.ag ?_;refine ah ?_;refine ah ?_;refine ah ?_;refine ah ?_;refine ah ?_;refine ah ?_;refine ah ?_;refine I V.aU ?_;refine a6 ?_;exact ce
    ·refine aX V.ba ?_;refine aX V.aG ?_;refine aX V.bL ?_;refine aX V.aZ ?_;refine I V.aU ?_;refine I V.ag ?_;refine dr 25 (fun agy=>?_) fun agy=>?_
     ·refine ah ?_;refine ah ?_;refine ah ?_;refine ah ?_;refine I V.aU ?_;refine I V.ag ?_;refine ah ?_;refine ah ?_;refine ah ?_;refine ah ?_;refine I V.aU ?_;refine I V.ag ?_;refine ah ?_;refine ah ?_;refine ah ?_;refine ah ?_;refine ah ?_;refine ah ?_;refine ah ?_;refine I V.aU ?_;refine a6 ?_;exact ce
     ·refine aX V.ba ?_;refine aX V.aG ?_;refine aX V.bL ?_;refine aX V.aZ ?_;refine I V.aU ?_;refine I V.ag ?_;refine dr 31 (fun agz=>?_) fun agz=>?_
      ·
        refine ah ?_;refine ah ?_;refine ah ?_;refine ah ?_;refine I V.aU ?_;refine I V.ag ?_;refine ah ?_;refine ah ?_;refine ah ?_;refine ah ?_;refine ah ?_;refine ah ?_;refine ah ?_;refine I V.aU ?_;refine a6 ?_;exact ce
      ·
        refine aX V.ba ?_;refine aX V.aG ?_;refine aX V.bL ?_;refine aX V.aZ ?_;refine I V.aU ?_;refine I V.ag ?_;refine dr 37 (fun agA=>?_) fun agA=>?_
        ·refine ah ?_;refine ah ?_;refine ah ?_;refine ah ?_;refine ah ?_;refine ah ?_;refine ah ?_;refine I V.aU ?_;refine a6 ?_;exact ce
        ·refine aX V.ba ?_;refine aX V.aG ?_;refine aX V.bL ?_;refine aX V.ba ?_;refine aX V.aG ?_;refine aX V.bL ?_;refine aX V.aZ ?_;refine I V.aU ?_;refine a6 ?_;exact ce
  case tI=>
   refine aj ?_;refine If (fun j9=>?_) fun j9=>?_
   ·refine rg ?_;refine I V.az ?_;refine ns ?_;refine ab.ret ?_;refine c5 ?_;refine⟨cD (Value.int .i64) ?_,rfl,rfl⟩;unfold eu;first
     |(have c:=dG;rw[aE dG]
       first
           |(have c:=j9;rw[aE j9])
           |(have c:=bx;rw[an j9,an (by rintro⟨w,aa,ae⟩;rw[eo (by omega)] at bx;exact bx w aa ae)]))
   ·refine aj ?_;refine ab.skip ?_;refine rg ?_;refine I V.az ?_;refine ns ?_;refine ab.block ?_;refine' ab.c0 (l':=[(5,.int .i64 ((0):Int)),(3,_)]) ⟨?p2,rfl,trivial⟩ (bu _) ?_;case p2=>exact bP
    refine aj ?_;refine' ab.rT (α:=(Nat)) (fun(i:Nat)=>[(5,.int .i64 (i:Int))]) (fun(i:Nat)=>i<=x.ws.length/\∀w∈x.ws.take i,¬(w<1\/1000<w)) (fun(i:Nat)=>x.ws.length -i) (0) ?hs ?bA;case hs=>exact⟨cy _,fun x U=>by cases U⟩
    case bA=>
     rintro i hinv;try simp only at hinv
     obtain⟨ao,bx⟩:=hinv;refine rg ?_;refine aM ?_;refine I V.aG ?_;refine I V.bL ?_;refine I V.aZ ?_;refine ns ?_;refine If (fun j'=>?_) fun j'=>?_
     ·obtain⟨a,off,cells,rfl,lh,ec⟩:=pH (by omega);obtain⟨w,hw,e4⟩:=ec i (by omega) (by omega);rw[cx] at hw;refine c7 ?_;refine aj ?_;refine ab.block ?_;refine fR [3,5] ?_;refine aj ?_;refine' ab.hl 0 [(66,.bool (decide ((w<1\/1000<w))))] ?adB ?aen;case adB=>
       refine ab.region ?_;refine I V.ba ?_;refine I V.aG ?_;refine I V.ag ?_;refine I V.aW ?_;refine' W.step rfl (Exec.val rfl rfl (gP rfl rfl ?aw (ho (eW rfl) ?ay)) ?_);case aw=>exact lh.sub (fun _ q=>by cases q)
       case ay=>first|rfl|assumption
       refine I V.aZ ?_;refine I V.ag ?_;refine dr 59 (fun agM=>?_) fun agM=>?_
       ·refine ah ?_;refine ah ?_;refine ah ?_;refine ah ?_;refine W.oU rfl rfl rfl rfl rfl ?_;refine ah ?_;refine I V.aU ?_;refine a6 ?_;exact ce
       ·refine aX V.ba ?_;refine aX V.aG ?_;refine aX V.ag ?_;refine aX V.aW ?_;refine' W.sH rfl rfl rfl (Exec.val rfl rfl (gP rfl rfl ?aw (ho (eW rfl) ?ay)) ?_);case aw=>exact lh.sub (fun _ q=>by cases q)
        case ay=>first|rfl|assumption
        refine aX V.aZ ?_;refine I V.aU ?_;refine a6 ?_;exact ce
      case aen=>
       refine aj ?_;refine If (fun Dk=>?_) fun Dk=>?_
       ·refine rg ?_;refine I V.az ?_;refine ns ?_;refine ab.ret ?_;refine c5 ?_;refine⟨cD (Value.int .i64) ?_,rfl,rfl⟩;unfold eu;first
         |(have c:=dG;rw[aE dG]
           first
               |(have c:=j9;rw[aE j9])
               |(have c:=Dk;rw[an j9,aE (UV hw Dk)])
               |(have c:=bx;rw[an j9,an (by rintro⟨w,aa,ae⟩;rw[eo (by omega)] at bx;exact bx w aa ae)]))
       ·refine aj ?_;refine ab.skip ?_;refine rg ?_;refine I V.ag ?_;refine I V.bt ?_;refine I V.az ?_;refine a6 ?_;refine'⟨(i+1),_,?hinv,?ky,rfl,⟨?m5,rfl,trivial⟩,bu _,rfl⟩;case m5=>exact bP
        case ky=>exact cc
        case hinv=>exact⟨by omega,te bx hw Dk⟩
     ·refine aj ?_;refine ab.exit ?_;refine rg ?_;refine I V.az ?_;refine ns ?_;refine ab.ret ?_;refine c5 ?_;refine⟨cD (Value.int .i64) ?_,rfl,rfl⟩;unfold eu;first
       |(have c:=dG;rw[aE dG]
         first
             |(have c:=j9;rw[aE j9])
             |(have c:=bx;rw[an j9,an (by rintro⟨w,aa,ae⟩;rw[eo (by omega)] at bx;exact bx w aa ae)]))
 ·refine rg ?_;refine I V.aZ ?_;refine I V.az ?_;refine ns ?_;refine If (fun n6=>?_) fun n6=>?_
  ·refine fR [2,3] ?_;refine aj ?_;refine' ab.hl 0 [(90,.bool (decide ((0<x.fF.length\/0<x.ws.length\/x.ak.length<1\/10<x.ak.length))))] ?adn ?ad';case adn=>
    refine ab.region ?_;refine I V.ba ?_;refine I V.aG ?_;refine I V.bL ?_;refine I V.aZ ?_;refine I V.ag ?_;refine dr 73 (fun agd=>?_) fun agd=>?_
    ·refine ah ?_;refine ah ?_;refine ah ?_;refine ah ?_;refine I V.aU ?_;refine I V.ag ?_;refine ah ?_;refine ah ?_;refine ah ?_;refine ah ?_;refine I V.aU ?_;refine I V.ag ?_;refine ah ?_;refine ah ?_;refine ah ?_;refine ah ?_;refine I V.aU ?_;refine a6 ?_;exact ce
    ·refine aX V.ba ?_;refine aX V.aG ?_;refine aX V.bL ?_;refine aX V.aZ ?_;refine I V.aU ?_;refine I V.ag ?_;refine dr 79 (fun agb=>?_) fun agb=>?_
     ·refine ah ?_;refine ah ?_;refine ah ?_;refine ah ?_;refine I V.aU ?_;refine I V.ag ?_;refine ah ?_;refine ah ?_;refine ah ?_;refine ah ?_;refine I V.aU ?_;refine a6 ?_;exact ce
     ·refine aX V.ba ?_;refine aX V.aG ?_;refine aX V.bL ?_;refine aX V.aZ ?_;refine I V.aU ?_;refine I V.ag ?_;refine dr 85 (fun agc=>?_) fun agc=>?_
      ·
        refine ah ?_;refine ah ?_;refine ah ?_;refine ah ?_;refine I V.aU ?_;refine a6 ?_;exact ce
      ·
        refine aX V.ba ?_;refine aX V.aG ?_;refine aX V.bL ?_;refine aX V.aZ ?_;refine I V.aU ?_;refine a6 ?_;exact ce
   case ad'=>
    refine aj ?_;refine If (fun tB=>?_) fun tB=>?_
    ·refine rg ?_;refine I V.az ?_;refine ns ?_;refine ab.ret ?_;refine c5 ?_;refine⟨cD (Value.int .i64) ?_,rfl,rfl⟩;unfold eu;first
        |(have c:=dG;rw[aE dG]
          first
            |(have c:=bx;rw[an j9,an (by rintro⟨w,aa,ae⟩;rw[eo (by omega)] at bx;exact bx w aa ae)]))
        |(have c:=n6;rw[an dG,aE n6]
          first
            |(have c:=tB;rw[aE tB]))
    ·refine aj ?_;refine ab.skip ?_;refine fR [2,3] ?_;refine aj ?_;refine' ab.hl 2 [(113,.bool (decide ((x.p<0\/g.pl<=x.p\/x.i<0\/(g.is.length:Int)<=x.i))))] ?adp ?aeb;case adp=>
      refine ab.region ?_;refine I V.ba ?_;refine I V.aG ?_;refine I V.aZ ?_;refine I V.ag ?_;refine dr 94 (fun agi=>?_) fun agi=>?_
      ·
        refine ah ?_;refine ah ?_;refine ah ?_;refine ah ?_;refine ah ?_;refine I V.aU ?_;refine I V.ag ?_;refine ah ?_;refine ah ?_;refine ah ?_;refine I V.aU ?_;refine I V.ag ?_;refine ah ?_;refine ah ?_;refine ah ?_;refine ah ?_;refine ah ?_;refine ah ?_;refine I V.aU ?_;refine a6 ?_;exact ce
      ·
        refine aX V.ba ?_;refine aX V.aG ?_;refine aX V.ba ?_;refine aX V.aG ?_;refine aX V.aZ ?_;refine I V.aU ?_;refine I V.ag ?_;refine dr 101 (fun agf=>?_) fun agf=>?_
        ·refine ah ?_;refine ah ?_;refine ah ?_;refine I V.aU ?_;refine I V.ag ?_;refine ah ?_;refine ah ?_;refine ah ?_;refine ah ?_;refine ah ?_;refine ah ?_;refine I V.aU ?_;refine a6 ?_;exact ce
        ·refine aX V.ba ?_;refine aX V.aG ?_;refine aX V.aZ ?_;refine I V.aU ?_;refine I V.ag ?_;refine dr 106 (fun agh=>?_) fun agh=>?_
         ·refine ah ?_;refine ah ?_;refine ah ?_;refine ah ?_;refine ah ?_;refine ah ?_;refine I V.aU ?_;refine a6 ?_;exact ce
         ·refine aX V.ba ?_;refine aX V.aG ?_;refine aX V.ba ?_;refine aX V.aG ?_;refine aX V.bL ?_;refine aX V.aZ ?_;refine I V.aU ?_;refine a6 ?_;exact ce
     case aeb=>
      refine aj ?_;refine If (fun w5=>?_) fun w5=>?_
      ·
        refine rg ?_;refine I V.az ?_;refine ns ?_;refine ab.ret ?_;refine c5 ?_;refine⟨cD (Value.int .i64) ?_,rfl,rfl⟩;unfold eu;first
         |(have c:=dG;rw[aE dG]
           first
               |(have c:=bx;rw[an j9,an (by rintro⟨w,aa,ae⟩;rw[eo (by omega)] at bx;exact bx w aa ae)]))
         |(have c:=n6;rw[an dG,aE n6]
           first
               |(have c:=tB;rw[aE tB])
               |(have c:=w5;rw[an tB,aE w5])
               |(have c:=w5;rw[an tB,an w5]))
      ·
        refine aj ?_;refine ab.skip ?_;refine rg ?_;refine I V.az ?_;refine ns ?_;refine ab.ret ?_;refine c5 ?_;refine⟨cD (Value.int .i64) ?_,rfl,rfl⟩;unfold eu;first
         |(have c:=dG;rw[aE dG]
           first
               |(have c:=bx;rw[an j9,an (by rintro⟨w,aa,ae⟩;rw[eo (by omega)] at bx;exact bx w aa ae)]))
         |(have c:=n6;rw[an dG,aE n6]
           first
               |(have c:=tB;rw[aE tB])
               |(have c:=w5;rw[an tB,aE w5])
               |(have c:=w5;rw[an tB,an w5]))
  ·refine rg ?_;refine I V.aZ ?_;refine I V.az ?_;refine ns ?_;refine If (fun n4=>?_) fun n4=>?_
   ·refine fR [2,3] ?_;refine aj ?_;refine' ab.hl 1 [(143,.bool (decide ((x.p≠0\/x.i≠0\/0<x.ak.length\/0<x.ws.length\/(x.fF.length:Int)≠g.pl))))] ?ads ?aee;case ads=>
     refine ab.region ?_;refine I V.ba ?_;refine I V.aG ?_;refine I V.aZ ?_;refine I V.ag ?_;refine dr 119 (fun agn=>?_) fun agn=>?_
     ·refine ah ?_;refine ah ?_;refine ah ?_;refine I V.aU ?_;refine I V.ag ?_;refine ah ?_;refine ah ?_;refine ah ?_;refine ah ?_;refine I V.aU ?_;refine I V.ag ?_;refine ah ?_;refine ah ?_;refine ah ?_;refine ah ?_;refine I V.aU ?_;refine I V.ag ?_;refine ah ?_;refine ah ?_;refine ah ?_;refine ah ?_;refine ah ?_;refine ah ?_;refine I V.aU ?_;refine a6 ?_;exact ce
     ·refine aX V.ba ?_;refine aX V.aG ?_;refine aX V.aZ ?_;refine I V.aU ?_;refine I V.ag ?_;refine dr 124 (fun ago=>?_) fun ago=>?_
      ·
        refine ah ?_;refine ah ?_;refine ah ?_;refine ah ?_;refine I V.aU ?_;refine I V.ag ?_;refine ah ?_;refine ah ?_;refine ah ?_;refine ah ?_;refine I V.aU ?_;refine I V.ag ?_;refine ah ?_;refine ah ?_;refine ah ?_;refine ah ?_;refine ah ?_;refine ah ?_;refine I V.aU ?_;refine a6 ?_;exact ce
      ·
        refine aX V.ba ?_;refine aX V.aG ?_;refine aX V.bL ?_;refine aX V.aZ ?_;refine I V.aU ?_;refine I V.ag ?_;refine dr 130 (fun agl=>?_) fun agl=>?_
        ·refine ah ?_;refine ah ?_;refine ah ?_;refine ah ?_;refine I V.aU ?_;refine I V.ag ?_;refine ah ?_;refine ah ?_;refine ah ?_;refine ah ?_;refine ah ?_;refine ah ?_;refine I V.aU ?_;refine a6 ?_;exact ce
        ·refine aX V.ba ?_;refine aX V.aG ?_;refine aX V.bL ?_;refine aX V.aZ ?_;refine I V.aU ?_;refine I V.ag ?_;refine dr 136 (fun agm=>?_) fun agm=>?_
         ·refine ah ?_;refine ah ?_;refine ah ?_;refine ah ?_;refine ah ?_;refine ah ?_;refine I V.aU ?_;refine a6 ?_;exact ce
         ·refine aX V.ba ?_;refine aX V.aG ?_;refine aX V.bL ?_;refine aX V.ba ?_;refine aX V.aG ?_;refine aX V.aZ ?_;refine I V.aU ?_;refine a6 ?_;exact ce
    case aee=>
     refine aj ?_;refine If (fun st=>?_) fun st=>?_
     ·refine rg ?_;refine I V.az ?_;refine ns ?_;refine ab.ret ?_;refine c5 ?_;refine⟨cD (Value.int .i64) ?_,rfl,rfl⟩;unfold eu;first
       |(have c:=dG;rw[aE dG]
         first
             |(have c:=bx;rw[an j9,an (by rintro⟨w,aa,ae⟩;rw[eo (by omega)] at bx;exact bx w aa ae)]))
       |(have c:=n4;rw[an dG,an n6,aE n4]
         first
             |(have c:=st;rw[aE st])
             |(have c:=bx;rw[an st,an (by rintro⟨w,aa,ae⟩;rw[eo (by omega)] at bx;exact bx w aa ae)]))
       |(have c:=n4;rw[an dG,an n6,an n4])
     ·refine aj ?_;refine ab.skip ?_;refine rg ?_;refine I V.az ?_;refine ns ?_;refine ab.block ?_;refine' ab.c0 (l':=[(6,.int .i64 ((0):Int)),(3,_)]) ⟨?nv,rfl,trivial⟩ (bu _) ?_;case nv=>exact bP
      refine aj ?_;refine' ab.rT (α:=(Nat)) (fun(i:Nat)=>[(6,.int .i64 (i:Int))]) (fun(i:Nat)=>i<=x.fF.length/\∀w∈x.fF.take i,¬(w< -1000000\/1000000<w)) (fun(i:Nat)=>x.fF.length -i) (0) ?hs ?bA;case hs=>exact⟨cy _,fun x U=>by cases U⟩
      case bA=>
        rintro i hinv;try simp only at hinv
        obtain⟨ao,bx⟩:=hinv;refine rg ?_;refine aM ?_;refine I V.aG ?_;refine I V.bL ?_;refine I V.aZ ?_;refine ns ?_;refine If (fun No=>?_) fun No=>?_
        ·obtain⟨a,off,cells,rfl,lh,ec⟩:=HP (by omega);obtain⟨w,hw,e4⟩:=ec i (by omega) (by omega);rw[cx] at hw;refine c7 ?_;refine aj ?_;refine ab.block ?_;refine fR [3,6] ?_;refine aj ?_;refine' ab.hl 0 [(164,.bool (decide ((w< -1000000\/1000000<w))))] ?adu ?aeg;case adu=>
          refine ab.region ?_;refine I V.ba ?_;refine I V.aG ?_;refine I V.ag ?_;refine I V.aW ?_;refine' W.step rfl (Exec.val rfl rfl (gP rfl rfl ?aw (ho (eW rfl) ?ay)) ?_);case aw=>exact lh.sub (fun _ q=>by cases q)
          case ay=>first|rfl|assumption
          refine I V.aZ ?_;refine I V.ag ?_;refine dr 157 (fun agu=>?_) fun agu=>?_
          ·refine ah ?_;refine ah ?_;refine ah ?_;refine ah ?_;refine W.oU rfl rfl rfl rfl rfl ?_;refine ah ?_;refine I V.aU ?_;refine a6 ?_;exact ce
          ·refine aX V.ba ?_;refine aX V.aG ?_;refine aX V.ag ?_;refine aX V.aW ?_;refine' W.sH rfl rfl rfl (Exec.val rfl rfl (gP rfl rfl ?aw (ho (eW rfl) ?ay)) ?_);case aw=>exact lh.sub (fun _ q=>by cases q)
           case ay=>first|rfl|assumption
           refine aX V.aZ ?_;refine I V.aU ?_;refine a6 ?_;exact ce
         case aeg=>
          refine aj ?_;refine If (fun Kd=>?_) fun Kd=>?_
          ·refine rg ?_;refine I V.az ?_;refine ns ?_;refine ab.ret ?_;refine c5 ?_;refine⟨cD (Value.int .i64) ?_,rfl,rfl⟩;unfold eu;first
            |(have c:=dG;rw[aE dG]
              first
                  |(have c:=bx;rw[an j9,an (by rintro⟨w,aa,ae⟩;rw[eo (by omega)] at bx;exact bx w aa ae)]))
            |(have c:=n4;rw[an dG,an n6,aE n4]
              first
                  |(have c:=st;rw[aE st])
                  |(have c:=Kd;rw[an st,aE (UV hw Kd)])
                  |(have c:=bx;rw[an st,an (by rintro⟨w,aa,ae⟩;rw[eo (by omega)] at bx;exact bx w aa ae)]))
            |(have c:=n4;rw[an dG,an n6,an n4])
          ·refine aj ?_;refine ab.skip ?_;refine rg ?_;refine I V.ag ?_;refine I V.bt ?_;refine I V.az ?_;refine a6 ?_;refine'⟨(i+1),_,?hinv,?ky,rfl,⟨?m6,rfl,trivial⟩,bu _,rfl⟩;case m6=>exact bP
           case ky=>exact cc
           case hinv=>exact⟨by omega,te bx hw Kd⟩
        ·refine aj ?_;refine ab.exit ?_;refine rg ?_;refine I V.az ?_;refine ns ?_;refine ab.ret ?_;refine c5 ?_;refine⟨cD (Value.int .i64) ?_,rfl,rfl⟩;unfold eu;first
          |(have c:=dG;rw[aE dG]
            first
                |(have c:=bx;rw[an j9,an (by rintro⟨w,aa,ae⟩;rw[eo (by omega)] at bx;exact bx w aa ae)]))
          |(have c:=n4;rw[an dG,an n6,aE n4]
            first
                |(have c:=st;rw[aE st])
                |(have c:=bx;rw[an st,an (by rintro⟨w,aa,ae⟩;rw[eo (by omega)] at bx;exact bx w aa ae)]))
          |(have c:=n4;rw[an dG,an n6,an n4])
   ·refine rg ?_;refine I V.az ?_;refine ns ?_;refine ab.ret ?_;refine c5 ?_;refine⟨cD (Value.int .i64) ?_,rfl,rfl⟩;unfold eu;first
     |(have c:=dG;rw[aE dG]
       first
           |(have c:=bx;rw[an j9,an (by rintro⟨w,aa,ae⟩;rw[eo (by omega)] at bx;exact bx w aa ae)]))
     |(have c:=n4;rw[an dG,an n6,aE n4]
       first
           |(have c:=bx;rw[an st,an (by rintro⟨w,aa,ae⟩;rw[eo (by omega)] at bx;exact bx w aa ae)]))
     |(have c:=n4;rw[an dG,an n6,an n4])
end
end
end Go.Opn

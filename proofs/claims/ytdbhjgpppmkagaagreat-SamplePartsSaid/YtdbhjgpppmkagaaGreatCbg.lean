/- A part of the proof of SampleParts. -/
import Derived.Test.YtdbhjgpppmkagaaGreatCbf
set_option maxRecDepth 100000
set_option maxHeartbeats 4000000
set_option linter.unusedVariables false
set_option linter.unusedSimpArgs false
namespace Go.Opn
noncomputable section
open Go.Cre Go.RowKit Go.Proofs
theorem iI.mono{m:aI}{J ag:aA}(hle:J.le ag){a:Nat}{cells:List Value}(h:iI m J a cells):iI m ag a cells:=by
 cases h with
 |own h=>exact .own h
 |opn h=>exact .opn h
 |fj h=>exact .fj (hle _ _ h)
theorem aiV{g:bp}{i:Int}{x:Int}(h:x∈fx i 0 g.ns):∃c:Nat,x=(c:Int)/\∃y,g.ns[c]?=some y/\y.k=2/\y.i=i:=by
 have key:∀(l:List cH) (n:Nat),x∈fx i n l->∃c:Nat,x=((n+c:Nat):Int)/\∃y,l[c]?=some y/\y.k=2/\y.i=i:=by
  intro l;induction l with
  |nil=>intro n h;cases h
  |cons y r aG=>
   intro n h;unfold fx at h;have Ct:x∈fx i (n+1) r->∃c:Nat,x=((n+c:Nat):Int)/\∃z,(y::r)[c]?=some z/\z.k=2/\z.i=i:=fun q=>by
        obtain⟨c,aa,z,ab,aK⟩:=aG (n+1) q;exact⟨c+1,by rw[aa];omega,z,by rw[wy];exact ab,aK⟩
   split at h
   ·rename_i ah
    rcases ft.1 h with q|q
    ·exact⟨0,by rw[q];rfl,y,rfl,ah⟩
    ·exact Ct q
   ·exact Ct h
 obtain⟨c,aa,ab⟩:=key g.ns 0 h;exact⟨c,by rw[aa];omega,ab⟩
section
variable {Q:db Tryz.prog}{g0:Nat}{J:aA}
def wb(g:bp)(P:List Int)(p:Int)(s:List Int):Prop:=∀x∈s,kp g P p x.toNat=kp g P p (nP s).toNat
open Classical in
theorem aiS{dm hx ad cq:Nat}{g:bp}{aT bi:Option Addr}{aP ci:Nat}{P:List Int}{gx:Nat}{info:Nat}{y:Int×Int}{b:Option Addr}{c:Nat}{s:List Int}
 (ar:hB J g aT aP bi ci)(hw:ti J dm hx ad cq g aT aP bi ci P)(aN:Tree g P)(dr:g.ns.length<=2000)(re:∀x∈g.ns,x.af.length<=60)(ah:g.is[info]?=some y)(al:ew J (.slice b s.length c) s)(iM:s.length<=2000)(aee:s≠[])(jg:∀x∈s,∃c:Nat,x=(c:Int)/\c<g.ns.length):
 Fn (a2 Q g0) 71 [.agg #[.pointer (some ⟨dm,0,none⟩),.func (.func 69) #[] #[.pointer (some ⟨gx,0,none⟩)]],.int .i64 (info:Int),.slice b s.length c] [(gx,.row [.bool true] 4)] J (fun u m' ag=>u=.bool (decide (wb g P y.1 s))/\m'=[(gx,.row [.bool (decide (wb g P y.1 s))] 4)]/\J.le ag):=by
 obtain⟨_,nk⟩:=ar.i.at;have kZ:addrEq bi bi=true:=ar.i.addr;have lj:addrEq aT aT=true:=ar.n.addr;have fq:addrEq b b=true:=by obtain⟨e,h⟩:=al;exact h.addr
 have xy:=hw.w;have vx:=(dv.1 ah).1;obtain⟨j6,agt,yI,yS,rfl,nM,oy⟩:=nk (by omega);obtain⟨jZ,yK,ld,xf,rc,rfl⟩:=oy info (by omega) (by omega);rw[ea,ah] at ld;injection ld with ld;subst ld
 have ady:=rc 0 _ (by decide) rfl;have hR:0<s.length:=List.length_pos_iff.2 aee;have zx:=al.l6 [];obtain⟨al4,aod,amn,rfl,Ia,SS⟩:=zx hR;obtain⟨CB,mW,Ta⟩:=SS 0 (by omega) (by omega);have TF:s[0]?=some CB:=mW;have EC:=ac4 TF;obtain⟨gV,k8,acS⟩:=jg CB (cV TF);subst k8;refine Fn.dw (dB Tryz.func71) rfl rfl fun H=>?_;refine rg ?_;refine fG fun bO=>?_;refine fG fun b3=>?_;refine U V.a7 ?_;refine ns ?_;refine ae.draw rfl (by kernel_rfl) (a8:=[.val 0,.val 1,.val 2,.val 3,.val 4,.val 5,.val 6,.val 7,.val 8,.val 9,.val 10]) (by kernel_rfl) ?_;refine aB rfl V.bU ?_;refine aB rfl V.a9 ?_;refine cm ?_;refine aB rfl V.a9 ?_;refine aB rfl V.a9 ?_;refine aB rfl V.bf ?_;refine aB rfl V.bU ?_;refine aB rfl V.a9 ?_;refine aB rfl V.a7 ?_;refine a3.nil ?_;refine aJ ?_;refine ae.draw rfl (by kernel_rfl) (a8:=[.val 0,.val 1,.val 2,.val 3,.val 4,.val 5,.cv 6,.val 7]) (by kernel_rfl) ?_;refine aB rfl V.bU ?_;refine aB rfl V.a9 ?_;refine aB rfl V.az ?_;refine aB rfl V.bf ?_;refine' a3.val rfl rfl rfl rfl (ix rfl rfl ?ax (iR (hh rfl) ?ap)) ?_;case ax=>exact Ia.sub (fun _ q=>by cases q)
 case ap=>first|rfl|assumption
 refine aB rfl V.az ?_;refine' a3.call rfl rfl rfl rfl rfl rfl rfl rfl rfl rfl (a4:=[]) (b2:=_) (.refl _) trivial (O4 ar hw aN dr re acS) ?_;rintro v m' cN eL ⟨ama,nF,rfl,rfl,_,SM⟩;rw[mB];refine aB rfl V.a7 ?_;refine a3.nil ?_;have TE:=IM (g:=g) (P:=P) (p:=y.1) gV gV (dH _);have anV:(kp g P y.1 gV).length<=2000:=by unfold kp qE;rw[CU,ig];omega
 refine rg ?_;refine aV ?_;refine ns ?_;refine ae.block ?_;refine' ae.fy (l':=[(31,.int .i64 ((0):Int)),(2,_),(3,_),(4,_),(7,_),(8,_),(29,_),(30,_)]) ⟨?akQ,rfl,rfl,rfl,rfl,rfl,rfl,rfl,trivial⟩ (bV _) ?_;case akQ=>exact ec
 refine aJ ?_;refine' ae.cf (fun(cU:Nat×aA)=>match cU with|(i,eW)=>⟨[(31,.int .i64 (i:Int))],[(b3,.row [.int .i64 (info:Int)] 3),(bO,.row [.pointer (some ⟨dm,0,none⟩),.func (.func 69) #[] #[.pointer (some ⟨gx,0,none⟩)]] 147),(gx,.row [.bool true] 4)],eW,i<=s.length/\(∀x∈s.take i,kp g P y.1 x.toNat=kp g P y.1 gV)/\cN.le eW,s.length -i⟩) ⟨0,cN⟩ ?al ?cp
 case al=>exact⟨dV _,fun x I=>(by cases I),aA.le.refl _⟩
 case cp=>
  rintro⟨i,eW⟩ hinv;try simp only at hinv
  obtain⟨ak,cA,ev⟩:=hinv;refine rg ?_;refine U V.bm ?_;refine ns ?_;refine If (fun uZ=>?_) fun uZ=>?_
  ·obtain⟨x,I,gk⟩:=SS i (by omega) (by omega);rw[ea] at I;obtain⟨lR,xg,Mf⟩:=jg x (cV I);subst xg;have qc:=eL.trans ev;have HU:=ar.mono qc;have E1:=hw.mono qc;have xy:=E1.w;refine gn ?_;refine aJ ?_;refine ae.block ?_;refine rg ?_;refine U V.bf ?_;refine' W.step rfl (Exec.val rfl rfl (ix rfl rfl ?ax (iR (hh rfl) ?ap)) ?_);case ax=>exact iI.mono qc (Ia.sub (fun _ q=>by cases q))
   case ap=>first|rfl|assumption
   refine U V.a7 ?_;refine bP ?_;refine' W.step rfl (.of (ic rfl rfl rfl (JN Q g0) rfl rfl rfl fun nB=>?_));refine fF ?_;refine bP ?_;refine U V.bU ?_;refine U V.a9 ?_;refine aV ?_;refine' W.step rfl (Exec.call rfl rfl rfl rfl rfl rfl rfl (a4:=[(nB,_),(b3,_),(bO,_)]) (b2:=[_]) (.refl _) trivial (Qc (σ:=Int) (step:=fun d a k=>(if ms g a=(info:Int) then(a:Int) else d,decide ((if ms g a=(info:Int) then(a:Int) else d)<0))) (mF:=fun c d az=>az=[(nB,.row [.int .i64 d] 3),(b3,.row [.int .i64 (info:Int)] 3),(bO,.row [.pointer (some ⟨dm,0,none⟩),.func (.func 69) #[] #[.pointer (some ⟨gx,0,none⟩)]] 147)]) (xX:=-1) HU E1 aN dr re (fun c a s az _ h=>h) (fun c a s az k cP q9 h=>by subst h;exact aiR HU E1 dr (by omega) rfl) Mf rfl) ?_);rintro v m' ag hle ⟨rfl,bT,rfl⟩;refine bu ?_;generalize yc (fun(d:Int) a k=>(if ms g a=(info:Int) then(a:Int) else d,decide ((if ms g a=(info:Int) then(a:Int) else d)<0))) (-1) (oI g P y.1 lR)=amB;refine rg ?_;refine U V.a9 ?_;refine U V.bm ?_;refine U V.az ?_;refine eu 43 (fun abP=>?_) fun abP=>?_
   ·refine bg V.bU ?_;refine bg V.a9 ?_;refine bg V.az ?_;refine bg V.a9 ?_;refine bg V.a9 ?_;refine bg V.lp ?_;refine' W.sk rfl rfl rfl (Exec.call rfl rfl rfl rfl rfl rfl rfl (a4:=[(gx,_)]) (b2:=[_,_,_]) (iB 3 rfl (iB 0 rfl (iB 0 rfl (iB 0 rfl .nil)))) trivial (NZ) ?_);rintro v m' ag hle ⟨rfl,rfl,rfl⟩;refine W.gZ (m':=[_,_,_,_]) (iB 1 rfl (iB 1 rfl (iB 1 rfl (iB 0 rfl .nil)))) ?_;refine bg V.oL ?_;refine U V.bc ?_;refine ns ?_;refine If (fun yD=>?_) fun yD=>?_
    ·exfalso;simp at yD
    ·refine aJ ?_;refine ae.skip ?_;refine rg ?_;refine U V.bU ?_;refine U V.a9 ?_;refine aV ?_;refine cl (G:=O4 HU E1 aN dr re Mf) (h:=?_);rintro v m' hs fu ⟨Yt,qX,rfl,rfl,_,Mh⟩;have aeH:=IM (g:=g) (P:=P) (p:=y.1) lR lR (dH _);have aeI:(kp g P y.1 lR).length<=2000:=by unfold kp qE;rw[CU,ig];omega
     refine U V.az ?_;refine cl (G:=Ry Mh (SM.mono (ev.trans fu) fun _ _ q=>q) (by omega)) (h:=?_);rintro v m' ag hle ⟨rfl,rfl,rfl⟩;refine ns ?_;refine If (fun qW=>?_) fun qW=>?_
     ·refine aJ ?_;refine ae.exit ?_;refine rg ?_;refine U V.va ?_;refine U V.az ?_;refine bu ?_;refine e2 ⟨i+1,_⟩ ?_ (hm:=.cons _ (.refl _));exact⟨by omega,F0 cA I (by rw[ea];exact qW),ev.trans fu⟩
     ·refine aJ ?_;refine ae.skip ?_;refine aJ ?_;refine ae.draw rfl (by kernel_rfl) (a8:=[.val 0,.val 1,.val 2,.val 3,.val 4,.val 5,.val 6,.val 7,.cv 8,.val 9]) (by kernel_rfl) ?_;refine aB rfl V.bU ?_;refine aB rfl V.a9 ?_;refine aB rfl V.az ?_;refine aB rfl V.a9 ?_;refine aB rfl V.az ?_;refine aB rfl V.bf ?_;refine' a3.val rfl rfl rfl rfl (ix rfl rfl ?ax (iR (hh rfl) ?ap)) ?_;case ax=>exact iI.mono (qc.trans fu) (Ia.sub (fun _ q=>by cases q))
      case ap=>first|rfl|assumption
      refine aB rfl V.lp ?_;refine' a3.call rfl rfl rfl rfl rfl rfl rfl rfl rfl rfl (a4:=[(gx,_)]) (b2:=[_,_,_]) (iB 3 rfl (iB 0 rfl (iB 0 rfl (iB 0 rfl .nil)))) trivial (NZ) ?_;rintro v m' ag hle ⟨rfl,rfl,rfl⟩;refine aB rfl V.oL ?_;refine a3.nil ?_;refine aJ ?_;refine If (fun yE=>?_) fun yE=>?_
      ·
        refine rg ?_;refine U V.a7 ?_;refine ns ?_;refine ae.ret ?_;refine'⟨.inr rfl,rfl,_,[(gx,_)],.tmp rfl .nil,(by first|exact .cons _ (.cons _ (.refl _))|exact .cons_cons _ (mc _)),?_⟩;first
         |(have c:=qW
           have gj:decide (wb g P y.1 s)=false:=by
               rw[nG];intro q;have:=q lR (cV I);rw[EC,ea,ea] at this;exact qW this
           rw[gj];exact⟨rfl,rfl,qc.trans fu⟩)
         |(have E6:decide (wb g P y.1 s)=true:=by
               rw[mN];intro x I;rw[fZ (by omega)] at cA;rw[EC,ea];exact cA x I
           rw[E6];exact⟨rfl,rfl,eL.trans ev⟩)
      ·
        exfalso;simp at yE
   ·refine a0 ?_;refine a0 ?_;refine a0 ?_;refine a0 ?_;refine a0 ?_;refine a0 ?_;refine W.p2 rfl rfl rfl rfl rfl ?_;refine a0 ?_;refine U V.bc ?_;refine ns ?_;refine ae.u4 rfl ?_;refine n0 ?_;refine U V.bU ?_;refine U V.a9 ?_;refine aV ?_;refine cl (G:=O4 HU E1 aN dr re Mf) (h:=?_);rintro v m' hs fu ⟨Yt,qX,rfl,rfl,_,Mh⟩;have aeH:=IM (g:=g) (P:=P) (p:=y.1) lR lR (dH _);have aeI:(kp g P y.1 lR).length<=2000:=by unfold kp qE;rw[CU,ig];omega
    refine U V.az ?_;refine cl (G:=Ry Mh (SM.mono (ev.trans fu) fun _ _ q=>q) (by omega)) (h:=?_);rintro v m' ag hle ⟨rfl,rfl,rfl⟩;refine ns ?_;refine If (fun qW=>?_) fun qW=>?_
    ·refine aJ ?_;refine ae.exit ?_;refine rg ?_;refine U V.va ?_;refine U V.az ?_;refine bu ?_;refine e2 ⟨i+1,_⟩ ?_ (hm:=.cons _ (.refl _));exact⟨by omega,F0 cA I (by rw[ea];exact qW),ev.trans fu⟩
    ·refine aJ ?_;refine ae.skip ?_;refine aJ ?_;refine ae.draw rfl (by kernel_rfl) (a8:=[.val 0,.val 1,.val 2,.val 3,.val 4,.val 5,.val 6,.val 7,.cv 8,.val 9]) (by kernel_rfl) ?_;refine aB rfl V.bU ?_;refine aB rfl V.a9 ?_;refine aB rfl V.az ?_;refine aB rfl V.a9 ?_;refine aB rfl V.az ?_;refine aB rfl V.bf ?_;refine' a3.val rfl rfl rfl rfl (ix rfl rfl ?ax (iR (hh rfl) ?ap)) ?_;case ax=>exact iI.mono (qc.trans fu) (Ia.sub (fun _ q=>by cases q))
     case ap=>first|rfl|assumption
     refine aB rfl V.lp ?_;refine' a3.call rfl rfl rfl rfl rfl rfl rfl rfl rfl rfl (a4:=[(gx,_)]) (b2:=[_,_,_]) (iB 3 rfl (iB 0 rfl (iB 0 rfl (iB 0 rfl .nil)))) trivial (NZ) ?_;rintro v m' ag hle ⟨rfl,rfl,rfl⟩;refine aB rfl V.oL ?_;refine a3.nil ?_;refine aJ ?_;refine If (fun yE=>?_) fun yE=>?_
     ·refine rg ?_;refine U V.a7 ?_;refine ns ?_;refine ae.ret ?_;refine'⟨.inr rfl,rfl,_,[(gx,_)],.tmp rfl .nil,(by first|exact .cons _ (.cons _ (.refl _))|exact .cons_cons _ (mc _)),?_⟩;first
       |(have c:=qW
         have gj:decide (wb g P y.1 s)=false:=by
             rw[nG];intro q;have:=q lR (cV I);rw[EC,ea,ea] at this;exact qW this
         rw[gj];exact⟨rfl,rfl,qc.trans fu⟩)
       |(have E6:decide (wb g P y.1 s)=true:=by
             rw[mN];intro x I;rw[fZ (by omega)] at cA;rw[EC,ea];exact cA x I
         rw[E6];exact⟨rfl,rfl,eL.trans ev⟩)
     ·exfalso;simp at yE
  ·refine aJ ?_;refine ae.exit ?_;refine rg ?_;refine U V.a7 ?_;refine ns ?_;refine ae.ret ?_;refine'⟨.inr rfl,rfl,_,[(gx,_)],.tmp rfl .nil,(by first|exact .cons _ (.cons _ (.refl _))|exact .cons_cons _ (mc _)),?_⟩;first
    |(have E6:decide (wb g P y.1 s)=true:=by
          rw[mN];intro x I;rw[fZ (by omega)] at cA;rw[EC,ea];exact cA x I
      rw[E6];exact⟨rfl,rfl,eL.trans ev⟩)
end
def Cc(g:bp):List Int:=match dW g.ns (g.ns.length+1) (-1) 0 0 with|none=>[]|some (_,es)=>es.map fun e=>e.1
theorem U2{g:bp}{n:Nat}{es:List fD}(h:dW g.ns (g.ns.length+1) (-1) 0 0=some (n,es)):Cc g=es.map fun e=>e.1:=by unfold Cc;rw[h]
theorem NW{g:bp}(h:uJ g):Tree g (Cc g):=by
 obtain⟨es,aa,_⟩:=h.walk;rw[U2 aa];exact aj7 aa
def Cd(g:bp)(p:Int):Prop:=∀(i:Nat) (s:List Int) (y:Int×Int),(jE g)[i]?=some s->g.is[i]?=some y->y.1=p->wb g (Cc g) p s
section
variable {Q:db Tryz.prog}{g0:Nat}{J:aA}
open Classical in
theorem aha{g:bp}{aT bi:Option Addr}{aP ci:Nat}{p:Int}(ar:hB J g aT aP bi ci)(aw:kR g=0)(hz:0<=p)(dS:p<g.pl):
 Fn (a2 Q g0) 53 [p0 g aT aP bi ci,.int .i64 p] [] J (GB (.tuple #[.bool (decide (Cd g p)),.int .i64 0]) J):=by
 have g':=Hr aw;have kZ:addrEq bi bi=true:=ar.i.addr;have lj:addrEq aT aT=true:=ar.n.addr;have dr:=g'.dr;have i2:=g'.i2;have jA:=g'.jA;have re:∀x∈g.ns,x.af.length<=60:=fun x I=>(UI (g'.nodes x I) g'.jA).1;refine Fn.dw (dB Tryz.func53) rfl rfl fun H=>?_;refine rg ?_;refine fG fun bF=>?_;refine aV ?_;refine bP ?_;refine U V.hb ?_;refine' W.step rfl (Exec.call rfl rfl rfl rfl rfl rfl rfl (a4:=[]) (b2:=[_]) (.refl _) trivial (Xa ar) ?_);rintro v m' ag hle ⟨rfl,w,rfl,kd⟩;obtain⟨es,dm,hx,ad,cq,gP,rfl,rfl⟩:=kd aw;refine aV ?_;refine bu ?_;refine ae.lH rfl fun zp=>?_;refine ae.lH rfl fun oA=>?_;refine ae.lH rfl fun xk=>?_;refine ae.lH rfl fun MC=>?_;have HX:=(zp.trans oA).trans (xk.trans MC);have hw:ti _ dm hx ad cq g aT aP bi ci (Cc g):=⟨(oA.trans (xk.trans MC)) _ _ (aA.mf _ _ _),(xk.trans MC) _ _ (by rw[U2 gP];exact aA.mf _ _ _)⟩;have Mp:=ar.mono HX;generalize aA.add (aA.add (aA.add (aA.add J dm _) hx _) ad _) cq _=alK at*;have xy:=hw.w;obtain⟨_,nk⟩:=Mp.i.at;refine rg ?_;refine U V.az ?_;refine U V.bm ?_;refine ns ?_;refine If (fun j7=>?_) fun j7=>?_
 ·exfalso;exact j7 aw
 ·refine aJ ?_;refine ae.skip ?_;refine rg ?_;refine U V.bU ?_;refine U V.a9 ?_;refine U V.va ?_;refine U V.az ?_;refine uV (hL Q g0) fun X5=>?_;refine' W.step rfl (Exec.call rfl rfl rfl rfl rfl rfl rfl (a4:=[(X5,_)]) (b2:=[_]) (.refl _) trivial (Gc (l:=[p]) (iH.own (.head _)) (by simp)) ?_);rintro v m' ag hle ⟨rfl,rfl,rfl⟩;refine U V.a7 ?_;refine bu ?_;rw[aq (by rw[tm];omega)];refine rg ?_;refine U V.az ?_;refine U V.bm ?_;refine ns ?_;refine If (fun AG=>?_) fun AG=>?_
  ·exfalso;exact absurd rfl AG
  ·refine aJ ?_;refine ae.skip ?_;refine rg ?_;refine' W.step rfl (.of (ic rfl rfl rfl (alz Q g0) rfl rfl rfl fun gx=>?_));refine fF ?_;refine bP ?_;refine aV ?_;refine' W.step rfl (.of (ic rfl rfl rfl (alv Q g0) rfl rfl rfl fun wF=>?_));refine fF ?_;refine bP ?_;refine U V.az ?_;refine cl (G:=afH Mp hw dr i2 g'.nodes) (h:=?_);rintro v m' hs fu ⟨amb,amp,rfl,rfl,_,p8⟩;obtain⟨_,pk⟩:=p8.at;have hR:(jE g).length=g.is.length:=Cq;refine aV ?_;refine ns ?_;refine ae.block ?_;refine aJ ?_;refine ae.gZ (m':=[_,_,_]) (iB 1 rfl (iB 0 rfl (iB 0 rfl .nil))) ?_;refine' ae.fy (l':=[(36,.int .i64 ((0):Int)),(1,_),(6,_),(9,_),(10,_),(34,_),(35,_)]) ⟨?akR,rfl,rfl,rfl,rfl,rfl,rfl,trivial⟩ (bV _) ?_;case akR=>exact ec
   refine aJ ?_;refine' ae.cf (fun(cU:Nat×aA)=>match cU with|(i,eW)=>⟨[(36,.int .i64 (i:Int))],[(gx,.row [.bool true] 4),(wF,.row [.pointer (some ⟨dm,0,none⟩),.func (.func 69) #[] #[.pointer (some ⟨gx,0,none⟩)]] 147),(bF,.row (w9 g aT aP bi ci) 27)],eW,i<=(jE g).length/\(∀(j:Nat) (s:List Int) (y:Int×Int),j<i->(jE g)[j]?=some s->g.is[j]?=some y->y.1=p->wb g (Cc g) p s)/\hs.le eW,(jE g).length -i⟩) ⟨0,hs⟩ ?al ?cp
   case al=>exact⟨dV _,fun j s y aU=>by omega,aA.le.refl _⟩
   case cp=>
    rintro⟨i,eW⟩ hinv;try simp only at hinv
    obtain⟨ak,cA,ev⟩:=hinv;refine rg ?_;refine U V.bm ?_;refine ns ?_;refine If (fun wT=>?_) fun wT=>?_
    ·obtain⟨cb,agm,Zq,aam,rfl,LN,Ms⟩:=pk (by omega);obtain⟨s,KW,al,Me,zo,bs,cs,rfl,aef⟩:=Ms i (by omega) (by omega);have MB:=zo 0 _ (by decide) rfl;obtain⟨j6,n4,yI,yS,rfl,nM,oy⟩:=nk (by omega);obtain⟨y,yK,ah,xf,rc,rfl⟩:=oy i (by omega) (by omega);have S2:=rc 0 _ (by decide) rfl;rw[ea] at al ah;have LN:=ev _ _ LN;have qc:=fu.trans ev;have nM:=qc _ _ nM;have xy:=qc _ _ xy;have pp:s=fx (i:Int) 0 g.ns:=by rw[x2 (by omega)] at al;injection al with al;exact al.symm
     have t':s≠[]:=g'.ai0 s (cV al);have aem:s.length<=2000:=by have:=V6 (j:=(i:Int)) (l:=g.ns) (n:=0);rw[pp];omega
     have jg:∀x∈s,∃c:Nat,x=(c:Int)/\c<g.ns.length:=fun x I=>by
        rw[pp] at I;obtain⟨c,aa,z,ab,_⟩:=aiV I;exact⟨c,aa,(dv.1 ab).1⟩
     refine gn ?_;refine aJ ?_;refine ae.block ?_;refine rg ?_;refine U V.az ?_;refine U V.bf ?_;refine U V.a9 ?_;refine aV ?_;refine bP ?_;refine aV ?_;refine U V.a9 ?_;refine U V.az ?_;refine U V.bf ?_;refine U V.bU ?_;refine U V.a9 ?_;refine U V.az ?_;refine U V.bm ?_;refine U V.az ?_;refine eu 52 (fun D5=>?_) fun D5=>?_
     ·refine bg V.hb ?_;refine bg V.az ?_;refine bg V.az ?_;refine' W.sk rfl rfl rfl (Exec.call rfl rfl rfl rfl rfl rfl rfl (a4:=[(gx,_)]) (b2:=[_,_]) (.refl _) trivial (aiS (Mp.mono qc) (hw.mono qc) (NW g') dr re ah (aef.mono ev) aem t' jg) ?_);rintro v m' mA gO ⟨rfl,rfl,_⟩;refine bg V.oL ?_;refine U V.bc ?_;refine ns ?_;refine If (fun Ds=>?_) fun Ds=>?_
      ·
        refine aJ ?_;refine ae.exit ?_;refine rg ?_;refine U V.a9 ?_;refine aV ?_;refine ns ?_;refine ae.ret ?_;refine hk ?_;first
         |(have c:=Ds
           rw[tx Ds,show decide (Cd g p)=false from tx fun q=>Ds (D5▸q i s y al ah D5)];exact⟨rfl,rfl,HX.trans (qc.trans gO)⟩)
         |(rw[show decide (Cd g p)=true from o8 fun j s y aa ab aK=>cA j s y (by have:=(dv.1 aa).1;omega) aa ab aK]
           exact⟨rfl,rfl,HX.trans (fu.trans ev)⟩)
      ·
        have BE:=uH.1 Ds;rw[o8 BE];refine n0 ?_;refine U V.va ?_;refine U V.az ?_;refine bu ?_;refine e2 ⟨i+1,_⟩ ?_;first|(have qw:=gO;refine⟨by omega,fun j cZ jZ aU aa ab aK=>?_,ev.trans gO⟩;by_cases q:j<i;(exact cA j cZ jZ q aa ab aK);(obtain rfl:j=i:=by omega);(rw[al] at aa;rw[ah] at ab;injection aa with aa;injection ab with ab;subst aa;subst ab;rw[<-aK];exact BE))|(refine⟨by omega,fun j cZ jZ aU aa ab aK=>?_,ev⟩;by_cases q:j<i;(exact cA j cZ jZ q aa ab aK);(obtain rfl:j=i:=by omega);(rw[ah] at ab;injection ab with ab;subst ab;exact absurd aK D5))
     ·refine a0 ?_;refine a0 ?_;refine a0 ?_;refine W.p2 rfl rfl rfl rfl rfl ?_;refine a0 ?_;refine U V.bc ?_;refine ns ?_;refine ae.u4 rfl ?_;refine n0 ?_;refine U V.va ?_;refine U V.az ?_;refine bu ?_;refine e2 ⟨i+1,_⟩ ?_;first|(have qw:=gO;refine⟨by omega,fun j cZ jZ aU aa ab aK=>?_,ev.trans gO⟩;by_cases q:j<i;(exact cA j cZ jZ q aa ab aK);(obtain rfl:j=i:=by omega);(rw[al] at aa;rw[ah] at ab;injection aa with aa;injection ab with ab;subst aa;subst ab;rw[<-aK];exact BE))|(refine⟨by omega,fun j cZ jZ aU aa ab aK=>?_,ev⟩;by_cases q:j<i;(exact cA j cZ jZ q aa ab aK);(obtain rfl:j=i:=by omega);(rw[ah] at ab;injection ab with ab;subst ab;exact absurd aK D5))
    ·refine aJ ?_;refine ae.exit ?_;refine rg ?_;refine U V.a9 ?_;refine aV ?_;refine ns ?_;refine ae.ret ?_;refine hk ?_;first
        |(rw[show decide (Cd g p)=true from o8 fun j s y aa ab aK=>cA j s y (by have:=(dv.1 aa).1;omega) aa ab aK]
          exact⟨rfl,rfl,HX.trans (fu.trans ev)⟩)
end
open Classical in
def rK (g:bp):Int:=if kR g≠0 then kR g else if ∃p,0<=p/\p<g.pl/\¬Cd g p then 13 else 0
def wa(cL:Int):List (List Int)->List (Int×Int)->Int
 |r::l,y::ys=>if(r.length:Int)≠y.2 then 3 else if r.any (gY cL 70368744177664)=true then 2 else wa cL l ys
 |_,_=>0
def rB(g:bp)(l:List (List Int))(cL:Int):Int:=if l.length≠g.is.length then 3 else wa cL l g.is
theorem Jo{cL:Int}{l:List (List Int)}{ys:List (Int×Int)}{i:Nat}{r:List Int}{y:Int×Int}(aa:l[i]?=some r)(ab:ys[i]?=some y):wa cL (l.drop i) (ys.drop i)=if(r.length:Int)≠y.2 then 3 else if r.any (gY cL 70368744177664)=true then 2 else wa cL (l.drop (i+1)) (ys.drop (i+1)):=by
 have ak:=(dv.1 aa).1;have aU:=(dv.1 ab).1;rw[od ak,od aU];have aD:l[i]=r:=by rw[du ak] at aa;injection aa
 have a5:ys[i]=y:=by rw[du aU] at ab;injection ab
 rw[aD,a5];rfl
theorem Jp{cL:Int}{l:List (List Int)}{ys:List (Int×Int)}{i:Nat}(h:l.length<=i):wa cL (l.drop i) (ys.drop i)=0:=by
 rw[wv h];rfl
structure kM where
 r:Int
 s:Int
 sum:List (List Int)
 pl:List (List Int)
structure tf (J:aA) (t:kM) (bs:Option Addr) (cs:Nat) (hE:Option Addr) (gM:Nat):Prop where
 s:fX J 22 1 (k3 J) (.slice bs t.sum.length cs) t.sum
 p:fX J 22 1 (k3 J) (.slice hE t.pl.length gM) t.pl
theorem tf.mono{J ag:aA}(hle:J.le ag){t:kM}{bs hE:Option Addr}{cs gM:Nat}(h:tf J t bs cs hE gM):tf ag t bs cs hE gM:=⟨h.s.mono hle fun _ _ q=>q.mono hle,h.p.mono hle fun _ _ q=>q.mono hle⟩
abbrev wg(t:kM)(bs:Option Addr)(cs:Nat)(hE:Option Addr)(gM:Nat):List Value:=[.int .i64 t.r,.int .i64 t.s,.slice bs t.sum.length cs,.slice hE t.pl.length gM]
abbrev Aa(t:kM)(bs:Option Addr)(cs:Nat)(hE:Option Addr)(gM:Nat):Value:=.agg (wg t bs cs hE gM).toArray
def yb (g:bp)(t:kM):Int:=if t.r<0\/1000000<t.r\/t.s<0\/2147483646<t.s then 2 else if rB g t.sum (-70368744177664)≠0 then rB g t.sum (-70368744177664) else rB g t.pl 0
def wW (g:bp)(t:kM):Int:=if rK g≠0 then rK g else yb g t
section
variable {Q:db Tryz.prog}{g0:Nat}{J:aA}
theorem Vr{g:bp}{aT bi:Option Addr}{aP ci:Nat}(ar:hB J g aT aP bi ci):
 Fn (a2 Q g0) 35 [p0 g aT aP bi ci] [] J (GB (.int .i64 (rK g)) J):=by
 have kZ:addrEq bi bi=true:=ar.i.addr;have lj:addrEq aT aT=true:=ar.n.addr;refine Fn.dw (dB Tryz.func35) rfl rfl fun H=>?_;refine rg ?_;refine fG fun bl=>?_;refine U V.a7 ?_;refine bP ?_;refine U V.hb ?_;refine cl (G:=abo ar) (h:=?_);rintro v m' cN eL ⟨rfl,rfl,_⟩;refine U V.a7 ?_;refine bP ?_;refine U V.az ?_;refine U V.bm ?_;refine ns ?_;refine If (fun e5=>?_) fun e5=>?_
 ·refine rg ?_;refine aV ?_;refine ns ?_;refine ae.ret ?_;refine hk ?_;unfold rK;first
   |(have c:=e5
     rw[aF e5];exact⟨rfl,rfl,eL⟩)
   |(rw[aq e5,aq (fun⟨p,aa,ab,aK⟩=>aK (cA p aa (by omega)))]
     exact⟨rfl,rfl,eL.trans ev⟩)
 ·have aw:=uH.1 e5;have g':=Hr aw;have anM:=g'.jA;refine n0 ?_;refine U V.bU ?_;refine U V.a9 ?_;refine U V.az ?_;refine ns ?_;refine ae.block ?_;refine' ae.fy (l':=[(14,.int .i64 ((0):Int)),(1,_),(13,_)]) ⟨?O0,rfl,rfl,trivial⟩ (bV _) ?_;case O0=>exact ec
  refine aJ ?_;refine' ae.cf (fun(cU:Nat×aA)=>match cU with|(i,eW)=>⟨[(14,.int .i64 (i:Int))],[(bl,.row (w9 g aT aP bi ci) 27)],eW,(i:Int)<=g.pl/\(∀p:Int,0<=p->p<i->Cd g p)/\cN.le eW,(g.pl -i).toNat⟩) ⟨0,cN⟩ ?al ?cp
  case al=>exact⟨by have:=g'.dS;omega,fun p aa ab=>by omega,aA.le.refl _⟩
  case cp=>
   rintro⟨i,eW⟩ hinv;try simp only at hinv
   obtain⟨ak,cA,ev⟩:=hinv;refine rg ?_;refine U V.bm ?_;refine ns ?_;refine If (fun KE=>?_) fun KE=>?_
   ·refine aJ ?_;refine ae.skip ?_;refine aJ ?_;refine ae.block ?_;refine rg ?_;refine aV ?_;refine bP ?_;refine U V.hb ?_;refine U V.az ?_;refine cl (G:=aha (ar.mono (eL.trans ev)) aw (by omega) (by omega)) (h:=?_);rintro v m' hs fu ⟨rfl,rfl,_⟩;refine aV ?_;refine bP ?_;refine U V.az ?_;refine U V.bm ?_;refine ns ?_;refine If (fun yA=>?_) fun yA=>?_
    ·exfalso;exact absurd rfl yA
    ·refine aJ ?_;refine ae.skip ?_;refine rg ?_;refine U V.az ?_;refine U V.oL ?_;refine ns ?_;refine If (fun j8=>?_) fun j8=>?_
     ·refine rg ?_;refine U V.a7 ?_;refine ns ?_;refine ae.ret ?_;refine hk ?_;unfold rK;first
       |(have c:=j8
         rw[aq e5,aF ⟨(i:Int),by omega,by omega,by simpa using j8⟩];exact⟨rfl,rfl,eL.trans (ev.trans fu)⟩)
       |(have c:=e5
         rw[aF e5];exact⟨rfl,rfl,eL⟩)
       |(rw[aq e5,aq (fun⟨p,aa,ab,aK⟩=>aK (cA p aa (by omega)))]
         exact⟨rfl,rfl,eL.trans ev⟩)
     ·refine aJ ?_;refine ae.skip ?_;refine rg ?_;refine U V.va ?_;refine U V.az ?_;refine bu ?_;refine e2 ⟨i+1,_⟩ ?_;refine⟨by omega,fun p aa ab=>?_,ev.trans fu⟩;by_cases q:p<i;(exact cA p aa q);(obtain rfl:p=i:=by omega);(exact uH.1 (by simpa using j8))
   ·refine aJ ?_;refine ae.exit ?_;refine rg ?_;refine U V.a7 ?_;refine ns ?_;refine ae.ret ?_;refine hk ?_;unfold rK;first
     |(have c:=e5
       rw[aF e5];exact⟨rfl,rfl,eL⟩)
     |(rw[aq e5,aq (fun⟨p,aa,ab,aK⟩=>aK (cA p aa (by omega)))]
       exact⟨rfl,rfl,eL.trans ev⟩)
theorem Q5{g:bp}{aT bi:Option Addr}{aP ci:Nat}{l:List (List Int)}{b:Option Addr}{c:Nat}{cL:Int}(ar:hB J g aT aP bi ci)(ay:fX J 22 1 (k3 J) (.slice b l.length c) l)(aa:l.length<=1000)(ab:∀r∈l,r.length<=1000):
 Fn (a2 Q g0) 37 [p0 g aT aP bi ci,.slice b l.length c,.int .i64 cL] [] J (fun u m' ag=>u=.int .i64 (rB g l cL)/\m'=[]/\J=ag):=by
 have kZ:addrEq bi bi=true:=ar.i.addr;have lj:addrEq aT aT=true:=ar.n.addr;obtain⟨_,nk⟩:=ar.i.at;obtain⟨_,zl⟩:=ay.at;refine Fn.dw (dB Tryz.func37) rfl rfl fun H=>?_;refine rg ?_;refine fG fun bO=>?_;refine U V.a7 ?_;refine bP ?_;refine aV ?_;refine U V.a9 ?_;refine U V.cr ?_;refine U V.bm ?_;refine ns ?_;refine If (fun r8=>?_) fun r8=>?_
 ·refine rg ?_;refine U V.a7 ?_;refine ns ?_;refine ae.ret ?_;refine hk ?_;refine⟨fl (Value.int .i64) ?_,rfl,rfl⟩;unfold rB;first
   |(have c:=hJ;rw[aq (by omega),hJ,Jp (by omega)])
   |rw[aF (by omega)]
 ·refine aJ ?_;refine ae.skip ?_;refine rg ?_;refine aV ?_;refine ns ?_;refine ae.block ?_;refine' ae.fy (l':=[(19,.int .i64 ((0):Int)),(2,_),(3,_),(17,_),(18,_)]) ⟨?F8,rfl,rfl,rfl,rfl,trivial⟩ (bV _) ?_;case F8=>exact ec
  refine aJ ?_;refine' ae.cf (fun(i:Nat)=>⟨[(19,.int .i64 (i:Int))],[(bO,.row (w9 g aT aP bi ci) 27)],J,i<=l.length/\wa cL l g.is=wa cL (l.drop i) (g.is.drop i),l.length -i⟩) (0) ?al ?cp;case al=>exact⟨dV _,rfl⟩
  case cp=>
   rintro i hinv;try simp only at hinv
   obtain⟨ak,hJ⟩:=hinv;refine rg ?_;refine U V.bm ?_;refine ns ?_;refine If (fun r9=>?_) fun r9=>?_
   ·obtain⟨cb,agm,Zq,aam,rfl,LN,Ms⟩:=zl (by omega);obtain⟨r,KW,ax,Me,zo,r7,pV,rfl,ad5⟩:=Ms i (by omega) (by omega);have MB:=zo 0 _ (by decide) rfl;obtain⟨j6,n4,yI,yS,rfl,nM,oy⟩:=nk (by omega);obtain⟨y,yK,ah,xf,rc,rfl⟩:=oy i (by omega) (by omega);have ann:=rc 1 _ (by decide) rfl;rw[ea] at ax ah;have xq:=ab r (cV ax);have zx:=ad5.l6 [];refine gn ?_;refine aJ ?_;refine ae.block ?_;refine rg ?_;refine U V.az ?_;refine U V.bf ?_;refine U V.a9 ?_;refine aV ?_;refine bP ?_;refine aV ?_;refine U V.a9 ?_;refine U V.az ?_;refine U V.bf ?_;refine U V.bU ?_;refine U V.a9 ?_;refine U V.bm ?_;refine ns ?_;refine If (fun uZ=>?_) fun uZ=>?_
    ·refine rg ?_;refine U V.a7 ?_;refine ns ?_;refine ae.ret ?_;refine hk ?_;refine⟨fl (Value.int .i64) ?_,rfl,rfl⟩;unfold rB;first
       |(have c:=uZ;rw[aq (by omega),hJ,Jo ax ah,aF uZ])
       |(have c:=hJ;rw[aq (by omega),hJ,Jp (by omega)])
       |rw[aF (by omega)]
    ·refine aJ ?_;refine ae.skip ?_;refine rg ?_;refine aV ?_;refine ns ?_;refine ae.block ?_;refine' ae.fy (l':=[(35,.int .i64 ((0):Int)),(2,_),(3,_),(17,_),(18,_),(19,_),(33,_),(34,_)]) ⟨?O2,rfl,rfl,rfl,rfl,rfl,rfl,rfl,trivial⟩ (bV _) ?_;case O2=>exact ec
     refine aJ ?_;refine' ae.cf (fun(k:Nat)=>⟨[(35,.int .i64 (k:Int))],[(bO,.row (w9 g aT aP (some ⟨j6,n4,none⟩) ci) 27)],J,k<=r.length/\(r.take k).any (gY cL 70368744177664)=false,r.length -k⟩) (0) ?al ?cp;case al=>exact⟨dV _,rfl⟩
     case cp=>
      rintro k hinv;try simp only at hinv
      obtain⟨aH,vn⟩:=hinv;refine rg ?_;refine U V.bm ?_;refine ns ?_;refine If (fun wS=>?_) fun wS=>?_
      ·obtain⟨GU,pz,G9,rfl,aed,tW⟩:=zx (by omega);obtain⟨x,I,gk⟩:=tW k (by omega) (by omega);refine gn ?_;refine aJ ?_;refine ae.block ?_;refine rg ?_;refine U V.bf ?_;refine' W.step rfl (Exec.val rfl rfl (ix rfl rfl ?ax (iR (hh rfl) ?ap)) ?_);case ax=>exact aed.sub (fun _ q=>by cases q)
       case ap=>first|rfl|assumption
       refine U V.a7 ?_;refine bu ?_;refine kq [10,2,3,17,18,19,33,34,35] ?_;refine aJ ?_;refine' ae.mi 1 [(45,.bool (decide ((x<cL\/70368744177664<x))))] ?ZD ?Z4;case ZD=>
        refine ae.region ?_;refine aV ?_;refine U V.bm ?_;refine U V.az ?_;refine eu 42 (fun tH=>?_) fun tH=>?_
        ·refine a0 ?_;refine a0 ?_;refine U V.bc ?_;refine bu ?_;exact ce
        ·refine bg V.az ?_;refine bg V.bm ?_;refine U V.bc ?_;refine bu ?_;exact ce
       case Z4=>
        refine aJ ?_;refine If (fun QY=>?_) fun QY=>?_
        ·refine rg ?_;refine U V.a7 ?_;refine ns ?_;refine ae.ret ?_;refine hk ?_;refine⟨fl (Value.int .i64) ?_,rfl,rfl⟩;unfold rB;first
          |(have c:=QY;rw[aq (by omega),hJ,Jo ax ah,aq uZ,aF (Kt I (by simp[gY];omega))])
          |(have c:=uZ;rw[aq (by omega),hJ,Jo ax ah,aF uZ])
          |(have c:=hJ;rw[aq (by omega),hJ,Jp (by omega)])
          |rw[aF (by omega)]
        ·refine aJ ?_;refine ae.skip ?_;refine rg ?_;refine U V.va ?_;refine U V.az ?_;refine bu ?_;refine e2 (k+1) ?_;exact⟨by omega,Qu I vn (by simp[gY];omega)⟩
      ·refine aJ ?_;refine ae.exit ?_;refine rg ?_;refine U V.va ?_;refine U V.az ?_;refine bu ?_;refine e2 (i+1) ?_;refine⟨by omega,?_⟩;rw[hJ,Jo ax ah,aq uZ,aq (by rw[fZ (by omega)] at vn;rw[vn];exact Ps)]
   ·refine aJ ?_;refine ae.exit ?_;refine rg ?_;refine U V.a7 ?_;refine ns ?_;refine ae.ret ?_;refine hk ?_;refine⟨fl (Value.int .i64) ?_,rfl,rfl⟩;unfold rB;first
     |(have c:=hJ;rw[aq (by omega),hJ,Jp (by omega)])
     |rw[aF (by omega)]
theorem Zb{g:bp}{aT bi:Option Addr}{aP ci:Nat}{t:kM}{bs hE:Option Addr}{cs gM:Nat}(ar:hB J g aT aP bi ci)(aN:tf J t bs cs hE gM)(aa:t.sum.length<=1000)(ab:∀r∈t.sum,r.length<=1000)(aK:t.pl.length<=1000)(bh:∀r∈t.pl,r.length<=1000):
 Fn (a2 Q g0) 19 [p0 g aT aP bi ci,Aa t bs cs hE gM] [] J (GB (.int .i64 (wW g t)) J):=by
 have kZ:addrEq bi bi=true:=ar.i.addr;have lj:addrEq aT aT=true:=ar.n.addr;refine Fn.dw (dB Tryz.func19) rfl rfl fun H=>?_;refine rg ?_;refine fG fun bF=>?_;refine fG fun bO=>?_;refine U V.a7 ?_;refine bP ?_;refine U V.hb ?_;refine cl (G:=Vr ar) (h:=?_);rintro v m' cN eL ⟨rfl,rfl,_⟩;refine U V.a7 ?_;refine bP ?_;refine U V.az ?_;refine U V.bm ?_;refine ns ?_;refine If (fun e5=>?_) fun e5=>?_
 ·refine rg ?_;refine aV ?_;refine ns ?_;refine ae.ret ?_;refine hk ?_;refine⟨fl (Value.int .i64) ?_,rfl,eL⟩;unfold wW yb;first
   |rw[aF e5]
 ·refine aJ ?_;refine ae.skip ?_;refine kq [2,3] ?_;refine aJ ?_;refine' ae.mi 0 [(19,.bool (decide ((t.r<0\/1000000<t.r))))] ?yJ ?yO;case yJ=>
   refine ae.region ?_;refine U V.bU ?_;refine U V.a9 ?_;refine U V.bm ?_;refine U V.az ?_;refine eu 15 (fun ot=>?_) fun ot=>?_
   ·refine a0 ?_;refine a0 ?_;refine a0 ?_;refine U V.bc ?_;refine bu ?_;exact ce
   ·refine bg V.bU ?_;refine bg V.a9 ?_;refine bg V.bm ?_;refine U V.bc ?_;refine bu ?_;exact ce
  case yO=>
   refine aJ ?_;refine If (fun j7=>?_) fun j7=>?_
   ·refine rg ?_;refine U V.a7 ?_;refine ns ?_;refine ae.ret ?_;refine hk ?_;refine⟨fl (Value.int .i64) ?_,rfl,eL⟩;unfold wW yb;first
     |(have c:=j7;rw[aq e5,aF (by omega)])
     |rw[aF e5]
   ·refine aJ ?_;refine ae.skip ?_;refine kq [2,3] ?_;refine aJ ?_;refine' ae.mi 0 [(27,.bool (decide ((t.s<0\/2147483646<t.s))))] ?ZJ ?aaa;case ZJ=>
     refine ae.region ?_;refine U V.bU ?_;refine U V.a9 ?_;refine U V.bm ?_;refine U V.az ?_;refine eu 23 (fun abO=>?_) fun abO=>?_
     ·refine a0 ?_;refine a0 ?_;refine a0 ?_;refine U V.bc ?_;refine bu ?_;exact ce
     ·refine bg V.bU ?_;refine bg V.a9 ?_;refine bg V.bm ?_;refine U V.bc ?_;refine bu ?_;exact ce
    case aaa=>
     refine aJ ?_;refine If (fun j8=>?_) fun j8=>?_
     ·refine rg ?_;refine U V.a7 ?_;refine ns ?_;refine ae.ret ?_;refine hk ?_;refine⟨fl (Value.int .i64) ?_,rfl,eL⟩;unfold wW yb;first
       |(have c:=j8;rw[aq e5,aF (by omega)])
       |(have c:=j7;rw[aq e5,aF (by omega)])
       |rw[aF e5]
     ·refine aJ ?_;refine ae.skip ?_;refine rg ?_;refine U V.hb ?_;refine U V.bU ?_;refine U V.a9 ?_;refine cl (G:=Q5 (ar.mono eL) (aN.mono eL).s aa ab) (h:=?_);rintro v m' hs fu ⟨rfl,rfl,rfl⟩;refine U V.a7 ?_;refine bP ?_;refine U V.az ?_;refine U V.bm ?_;refine ns ?_;refine If (fun yB=>?_) fun yB=>?_
      ·refine rg ?_;refine aV ?_;refine ns ?_;refine ae.ret ?_;refine hk ?_;refine⟨fl (Value.int .i64) ?_,rfl,eL⟩;unfold wW yb;first
         |(have c:=yB
           first
              |rw[aq e5,aq (by omega),aF yB]
              |rw[aq e5,aq (by omega),aq yB])
         |(have c:=j8;rw[aq e5,aF (by omega)])
         |(have c:=j7;rw[aq e5,aF (by omega)])
         |rw[aF e5]
      ·refine aJ ?_;refine ae.skip ?_;refine rg ?_;refine U V.hb ?_;refine U V.bU ?_;refine U V.a9 ?_;refine cl (G:=Q5 (ar.mono eL) (aN.mono eL).p aK bh) (h:=?_);rintro v m' mA gO ⟨rfl,rfl,rfl⟩;refine U V.a7 ?_;refine ns ?_;refine ae.ret ?_;refine hk ?_;refine⟨fl (Value.int .i64) ?_,rfl,eL⟩;unfold wW yb;first
         |(have c:=yB
           first
              |rw[aq e5,aq (by omega),aF yB]
              |rw[aq e5,aq (by omega),aq yB])
         |(have c:=j8;rw[aq e5,aF (by omega)])
         |(have c:=j7;rw[aq e5,aF (by omega)])
         |rw[aF e5]
end
end
end Go.Opn

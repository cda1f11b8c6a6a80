/- A part of the proof of ResumeBack. -/
import Derived.Test.YtiemfjdacfioeaaGreatDoorCay
set_option maxRecDepth 100000
set_option maxHeartbeats 4000000
set_option linter.unusedVariables false
set_option linter.unusedSimpArgs false
namespace Go.Opn
noncomputable section
open Go.Cre Go.RowKit Go.Proofs
theorem Im{g:bz}{x:cS}(h:ev g x=0)(aU:x.k=2):0<=x.i/\x.i<g.is.length/\0<=x.p/\x.p<g.pl/\1<=x.ak.length/\x.ak.length<=10:=by
 unfold ev at h;rw[ap (by omega),aE aU] at h;split at h
 ·omega
 ·split at h<;>omega
theorem Xy{g:bz}:∀{l:List cS},(∀x∈l,ev g x=0)->o3 g l=0:=by
 intro l;induction l with
 |nil=>intro _;rfl
 |cons y r aK=>
  intro h;show(if ev g y≠0 then ev g y else o3 g r)=0;rw[ap (by rw[h y (.head _)];simp)];exact aK fun x U=>h x (.tail _ U)
theorem sP{g:bz}:∀{l:List cS} {i:Nat} {x:cS},(∀y∈l.take i,ev g y=0)->l[i]?=some x->ev g x≠0->o3 g l=ev g x:=by
 intro l;induction l with
 |nil=>intro i x _ h;cases h
 |cons y r aK=>
  intro i x h U aP;show(if ev g y≠0 then ev g y else o3 g r)=_;cases i with
  |zero=>simp at U;subst U;rw[aE aP]
  |succ i=>
   rw[ap (by rw[h y (.head _)];simp)];exact aK (fun z bN=>h z (.tail _ bN)) (by simpa using U) aP
theorem sY{α:Type}{P:α->Prop}{l:List α}{i:Nat}{x:α}(h:∀y∈l.take i,P y)(U:l[i]?=some x)(aw:P x):∀y∈l.take (i+1),P y:=by
 intro y ai;rw[nS,U] at ai;rcases kX.1 ai with q|q
 ·exact h y q
 ·simp at q;subst q;exact aw
section
variable {Q:dI Tryz.prog}{g0:Nat}{J:aI}
theorem anv{dd:Nat}{g:bz}{aT aL:Option Addr}{aQ ci:Nat}{ja i' gZ:Value}{aY:aO}(aq:fG J g aT aQ aL ci)(aP:∀x∈g.ns,ev g x=0)(dn:g.ns.length<=2000)(i2:g.is.length<=200):
 Fn (bb Q g0) 72 [.pointer (some ⟨dd,0,none⟩)] (jG dd g aT aQ aL ci ja i' gZ::aY) J (fun u m' ag=>u=.int .i64 (pK g)/\m'=jG dd g aT aQ aL ci ja i' gZ::aY/\J=ag):=by
 obtain⟨_,fD⟩:=aq.n.at;obtain⟨_,kt⟩:=aq.i.at;have fW:addrEq aL aL=true:=aq.i.addr;have gn:addrEq aT aT=true:=aq.n.addr;refine Fn.cH (cQ Tryz.func72) rfl rfl fun H=>?_;refine rg ?_;refine I V.aA ?_;refine bj ?_;refine aM ?_;refine I V.aF ?_;refine I V.bP ?_;refine' W.step rfl (.of (pT rfl rfl rfl rfl rfl (eX Q g0) ?bD ?aa ?ae fun wC=>?_));case bD=>exact cf
 case aa=>exact cf
 case ae=>exact cf
 refine I V.aA ?_;refine a8 ?_;rw[yi,cy,show List.replicate g.is.length (0:Int)=mq g g.ns.length from(aeR (cZ _)).symm];refine rg ?_;refine aM ?_;refine I V.aF ?_;refine I V.bP ?_;refine I V.bx ?_;refine I V.aA ?_;refine ns ?_;refine ab.block ?_;refine' ab.c2 (l':=[(4,.int .i64 (((g.ns.length):Int) -1)),(0,_),(3,_)]) ⟨?kF,rfl,rfl,trivial⟩ (bA _) ?_;case kF=>exact bS
 refine aj ?_;refine' ab.dF (fun(k:Nat)=>⟨[(4,.int .i64 ((k:Int) -1))],ld wC (mq g k)::jG dd g aT aQ aL ci ja i' gZ::aY,J,k<=g.ns.length,k⟩) (g.ns.length) ?af ?bE;case af=>exact cZ _
 case bE=>
  rintro k hinv;try simp only at hinv
  have aU:=hinv;refine rg ?_;refine I V.ah ?_;refine I V.a1 ?_;refine ns ?_;refine If (fun vc=>?_) fun vc=>?_
  ·obtain⟨a,off,cells,bG,rfl,ms,ec⟩:=fD (by omega);obtain⟨x,cs,U,gV,_,ey⟩:=ec ((k:Int) -1) (by omega) (by omega);obtain⟨bm,bt,bl,bw,b8,dh,rfl,eo,ga,gz⟩:=ey;have e1:g.ns[k -1]?=some x:=by rw[<-U];congr 1;omega
   have mZ:k -1+1=k:=by omega
   have e0:=aP x (cd e1);refine c5 ?_;refine aj ?_;refine ab.block ?_;refine rg ?_;refine aM ?_;refine I V.aF ?_;refine I V.ah ?_;refine I V.aX ?_;refine I V.c8 ?_;refine' W.step rfl (.of (e4 rfl rfl rfl (om Q g0) rfl rfl rfl fun a5=>?_));refine dN ?_;refine bj ?_;refine I V.bc ?_;refine I V.aF ?_;refine I V.a1 ?_;refine ns ?_;refine If (fun fV=>?_) fun fV=>?_
   ·have ua:=Im e0 (by simpa using fV);have iK:(mq g k).length=g.is.length:=tB;refine rg ?_;refine aM ?_;refine I V.aF ?_;refine I V.ah ?_;refine I V.bx ?_;refine I V.aX ?_;refine' W.step rfl (.of (hz rfl rfl rfl rfl (fY rfl) rfl rfl rfl ?aa ?af ?aw ?_));case aw=>repeat first|exact .head _ _ _ _|apply cR.tail|apply cR.app
    case af=>exact jo x.i.toNat (by omega)
    case aa=>first|rfl|assumption
    refine bj ?_;refine I V.ah ?_;refine I V.bx ?_;refine I V.aA ?_;refine a8 ?_;refine cA (k -1) ?_ (hm:=(by rw[aeT e1 (by simpa using fV) (by omega) (by omega),mZ,show((k -1:Nat):Int)=(k:Int) -1 by omega];exact .cons _ (.refl _)));omega
   ·refine aj ?_;refine ab.skip ?_;refine rg ?_;refine I V.ah ?_;refine I V.bx ?_;refine I V.aA ?_;refine a8 ?_;refine cA (k -1) ?_ (hm:=(by rw[aeS e1 (by simpa using fV),mZ];exact .cons _ (.refl _)));omega
  ·obtain rfl:k=0:=by omega
   refine aj ?_;refine ab.exit ?_;refine rg ?_;refine aM ?_;refine I V.aF ?_;refine aM ?_;refine ns ?_;refine ab.block ?_;refine' ab.c2 (l':=[(49,.int .i64 ((0):Int)),(0,_),(3,_),(47,_),(48,_)]) ⟨?apb,rfl,rfl,rfl,rfl,trivial⟩ (bA _) ?_;case apb=>exact bS
   refine aj ?_;refine' ab.dF (fun(i:Nat)=>⟨[(49,.int .i64 (i:Int))],ld wC (mq g 0)::jG dd g aT aQ aL ci ja i' gZ::aY,J,i<=g.ns.length/\∀x∈g.ns.take i,x.k=2->g.is[x.i.toNat]?=some (x.p,(x.ak.length:Int)),g.ns.length -i⟩) (0) ?af ?bE;case af=>exact⟨cB _,fun x U=>by cases U⟩
   case bE=>
    rintro i hinv;try simp only at hinv
    obtain⟨ao,bB⟩:=hinv;refine rg ?_;refine I V.a1 ?_;refine ns ?_;refine If (fun jY=>?_) fun jY=>?_
    ·obtain⟨a,off,cells,bG,rfl,ms,ec⟩:=fD (by omega);obtain⟨x,cs,U,gV,_,ey⟩:=ec i (by omega) (by omega);obtain⟨bm,bt,bl,bw,b8,dh,rfl,eo,ga,gz⟩:=ey;have bd:addrEq bm bm=true:=by obtain⟨e,h⟩:=eo;exact h.addr
     rw[cy] at U;have e0:=aP x (cd U);refine c5 ?_;refine aj ?_;refine ab.block ?_;refine rg ?_;refine I V.aX ?_;refine I V.c8 ?_;refine' W.step rfl (.of (e4 rfl rfl rfl (om Q g0) rfl rfl rfl fun cX=>?_));refine dN ?_;refine ns ?_;refine ab.Dp [] rfl (by kernel_rfl) (bf:=[.val 0,.val 1,.val 2,.val 3,.val 4,.val 5,.val 6,.val 7,.val 8,.val 9,.val 10,.val 11,.val 12,.val 13,.val 14,.val 15,.val 16,.val 17,.val 18,.val 19,.val 20]) (by kernel_rfl) ?_;refine dp rfl V.bc ?_;refine dp rfl V.aF ?_;refine dp rfl V.a1 ?_;refine dp rfl V.ah ?_;refine th 56 (fun vv=>?_) fun vv=>?_
     ·have ua:=Im e0 (by simpa using vv);obtain⟨ha,XM,ace,ad0,rfl,mu,OV⟩:=kt (by omega);obtain⟨y,cs,ai,tU,_,rfl⟩:=OV x.i (by omega) (by omega);refine dj rfl V.ah ?_;refine dj rfl V.o2 ?_;refine dj rfl V.bc ?_;refine dj rfl V.bc ?_;refine dj rfl V.aF ?_;refine dj rfl V.bc ?_;refine dj rfl V.aF ?_;refine dj rfl V.aX ?_;refine dj rfl V.c8 ?_;refine dj rfl V.bc ?_;refine dj rfl V.aF ?_;refine dj rfl V.bc ?_;refine dj rfl V.aF ?_;refine dj rfl V.bP ?_;refine dj rfl V.jL ?_;refine' dx.L8 rfl rfl rfl rfl rfl rfl (ZJ rfl (.inr ⟨rfl,rfl⟩) rfl rfl (ajL Q g0) (la:=[_,_]) (bs:=[_,_]) rfl rfl rfl rfl) ?_;refine dp rfl V.aV ?_;refine dx.nil ?_;refine aj ?_;refine If (fun km=>?_) fun km=>?_
      ·
        refine rg ?_;refine I V.aA ?_;refine ns ?_;refine ab.ret ?_;refine'⟨.inr rfl,rfl,_,jG _ _ _ _ _ _ _ _ _::aY,.tmp rfl .nil,(by first|exact .cons _ (.refl _)|exact .cons _ (.cons _ (.refl _))),?_⟩;refine⟨cC (Value.int .i64) ?_,rfl,rfl⟩;have fK:i>=g.ns.length->¬∃x∈g.ns,x.k=2/\g.is[x.i.toNat]?≠some (x.p,(x.ak.length:Int)):=by
         rintro sA ⟨x,aa,ae,aG⟩;rw[et (by omega)] at bB;exact aG (bB x aa ae)
        unfold pK;first
         |(have BE:=U;rw[aE ⟨x,cd U,by simpa using vv,fun q=>km (by rw[ai] at q;injection q with q;rw[q])⟩])
         |(rw[ap (fK (by omega)),aE (sX.2 pj)])
         |(rw[ap (fK (by omega)),ap (fun q=>pj (sX.1 q)),aE (zW.2 (by simpa using sd))])
         |(rw[ap (fK (by omega)),ap (fun q=>pj (sX.1 q)),ap (fun q=>zW.1 q (by simpa using sd))])
      ·
        refine aj ?_;refine ab.skip ?_;refine rg ?_;refine I V.bx ?_;refine I V.ah ?_;refine a8 ?_;refine cA (i+1) ?_ (hm:=.cons _ (.refl _));refine⟨by omega,sY bB U fun aU=>?_⟩;first|exact absurd aU (by simpa using vv)|(rw[ai];simp at km;rw[<-km.1,<-km.2])
     ·refine cx rfl ?_;refine cx rfl ?_;refine cx rfl ?_;refine cx rfl ?_;refine cx rfl ?_;refine cx rfl ?_;refine cx rfl ?_;refine cx rfl ?_;refine cx rfl ?_;refine cx rfl ?_;refine cx rfl ?_;refine cx rfl ?_;refine cx rfl ?_;refine cx rfl ?_;refine cx rfl ?_;refine dx.ZT rfl rfl rfl rfl rfl rfl ?_;refine dp rfl V.aV ?_;refine dx.nil ?_;refine aj ?_;refine ab.wS rfl ?_;refine nf ?_;refine I V.bx ?_;refine I V.ah ?_;refine a8 ?_;refine cA (i+1) ?_ (hm:=.cons _ (.refl _));refine⟨by omega,sY bB U fun aU=>?_⟩;first|exact absurd aU (by simpa using vv)|(rw[ai];simp at km;rw[<-km.1,<-km.2])
    ·refine aj ?_;refine ab.exit ?_;refine rg ?_;refine I V.ah ?_;refine' W.step rfl (Exec.call rfl rfl rfl rfl rfl rfl rfl (bh:=_) (bW:=[]) (by rw[gg]) trivial ((by have h:=acJ (Q:=Q) (g0:=g0) (J:=J) (gk:=ld wC (mq g 0)::jG dd g aT aQ aL ci ja i' gZ::aY) (l:=mq g 0) (c:=g.is.length) (v:=0) (jJ.own (.head _)) (by rw[tB];omega);rw[tB] at h;exact h)) ?_);rintro v m' ag hle ⟨rfl,rfl,rfl⟩;rw[gg];refine ns ?_;refine If (fun pj=>?_) fun pj=>?_
     ·refine rg ?_;refine I V.aA ?_;refine ns ?_;refine ab.ret ?_;refine'⟨.inr rfl,rfl,_,jG _ _ _ _ _ _ _ _ _::aY,.tmp rfl .nil,(by first|exact .cons _ (.refl _)|exact .cons _ (.cons _ (.refl _))),?_⟩;refine⟨cC (Value.int .i64) ?_,rfl,rfl⟩;have fK:i>=g.ns.length->¬∃x∈g.ns,x.k=2/\g.is[x.i.toNat]?≠some (x.p,(x.ak.length:Int)):=by
        rintro sA ⟨x,aa,ae,aG⟩;rw[et (by omega)] at bB;exact aG (bB x aa ae)
      unfold pK;first
        |(have BE:=U;rw[aE ⟨x,cd U,by simpa using vv,fun q=>km (by rw[ai] at q;injection q with q;rw[q])⟩])
        |(rw[ap (fK (by omega)),aE (sX.2 pj)])
        |(rw[ap (fK (by omega)),ap (fun q=>pj (sX.1 q)),aE (zW.2 (by simpa using sd))])
        |(rw[ap (fK (by omega)),ap (fun q=>pj (sX.1 q)),ap (fun q=>zW.1 q (by simpa using sd))])
     ·refine aj ?_;refine ab.skip ?_;refine rg ?_;refine I V.ah ?_;refine' W.step rfl (Exec.call rfl rfl rfl rfl rfl rfl rfl (bh:=_) (bW:=[]) (by rw[gg]) trivial ((by have h:=ajY (Q:=Q) (g0:=g0) (J:=J) (gk:=ld wC (mq g 0)::jG dd g aT aQ aL ci ja i' gZ::aY) (l:=mq g 0) (c:=g.is.length) (jJ.own (.head _)) (by rw[tB];omega) (by simp[addrEq]);rw[tB] at h;exact h)) ?_);rintro v m' ag hle ⟨rfl,rfl,rfl⟩;rw[gg];refine I V.oe ?_;refine ns ?_;refine If (fun sd=>?_) fun sd=>?_
      ·
        refine rg ?_;refine I V.aA ?_;refine ns ?_;refine ab.ret ?_;refine'⟨.inr rfl,rfl,_,jG _ _ _ _ _ _ _ _ _::aY,.tmp rfl .nil,(by first|exact .cons _ (.refl _)|exact .cons _ (.cons _ (.refl _))),?_⟩;refine⟨cC (Value.int .i64) ?_,rfl,rfl⟩;have fK:i>=g.ns.length->¬∃x∈g.ns,x.k=2/\g.is[x.i.toNat]?≠some (x.p,(x.ak.length:Int)):=by
         rintro sA ⟨x,aa,ae,aG⟩;rw[et (by omega)] at bB;exact aG (bB x aa ae)
        unfold pK;first
         |(have BE:=U;rw[aE ⟨x,cd U,by simpa using vv,fun q=>km (by rw[ai] at q;injection q with q;rw[q])⟩])
         |(rw[ap (fK (by omega)),aE (sX.2 pj)])
         |(rw[ap (fK (by omega)),ap (fun q=>pj (sX.1 q)),aE (zW.2 (by simpa using sd))])
         |(rw[ap (fK (by omega)),ap (fun q=>pj (sX.1 q)),ap (fun q=>zW.1 q (by simpa using sd))])
      ·
        refine aj ?_;refine ab.skip ?_;refine rg ?_;refine I V.aA ?_;refine ns ?_;refine ab.ret ?_;refine'⟨.inr rfl,rfl,_,jG _ _ _ _ _ _ _ _ _::aY,.tmp rfl .nil,(by first|exact .cons _ (.refl _)|exact .cons _ (.cons _ (.refl _))),?_⟩;refine⟨cC (Value.int .i64) ?_,rfl,rfl⟩;have fK:i>=g.ns.length->¬∃x∈g.ns,x.k=2/\g.is[x.i.toNat]?≠some (x.p,(x.ak.length:Int)):=by
         rintro sA ⟨x,aa,ae,aG⟩;rw[et (by omega)] at bB;exact aG (bB x aa ae)
        unfold pK;first
         |(have BE:=U;rw[aE ⟨x,cd U,by simpa using vv,fun q=>km (by rw[ai] at q;injection q with q;rw[q])⟩])
         |(rw[ap (fK (by omega)),aE (sX.2 pj)])
         |(rw[ap (fK (by omega)),ap (fun q=>pj (sX.1 q)),aE (zW.2 (by simpa using sd))])
         |(rw[ap (fK (by omega)),ap (fun q=>pj (sX.1 q)),ap (fun q=>zW.1 q (by simpa using sd))])
end
theorem p'{g:bz}(h:g.pl<1\/4<g.pl\/g.ns.length<1\/2000<g.ns.length\/200<g.is.length):h6 g=2:=by unfold h6;rw[aE h]
theorem DE{g:bz}(h:¬(g.pl<1\/4<g.pl\/g.ns.length<1\/2000<g.ns.length\/200<g.is.length))(ae:o3 g g.ns≠0):h6 g=o3 g g.ns:=by unfold h6;rw[ap h,aE ae]
theorem so{g:bz}(h:¬(g.pl<1\/4<g.pl\/g.ns.length<1\/2000<g.ns.length\/200<g.is.length))(ae:o3 g g.ns=0)(aG:¬∃es,dP g.ns (g.ns.length+1) (-1) 0 0=some (g.ns.length,es)):h6 g=9:=by
 unfold h6;rw[ap h,ap (fun q=>q ae)];split
 ·rfl
 ·rename_i n es br
  rw[aE (fun q=>aG ⟨es,by rw[br,q]⟩)]
theorem p9{g:bz}(h:¬(g.pl<1\/4<g.pl\/g.ns.length<1\/2000<g.ns.length\/200<g.is.length))(ae:o3 g g.ns=0){es:List gq}(aG:dP g.ns (g.ns.length+1) (-1) 0 0=some (g.ns.length,es))(br:40<q7 es):h6 g=5:=by
 unfold h6;rw[ap h,ap (fun q=>q ae),aG];simp only;rw[ap (fun q=>q rfl),aE br]
theorem qa{g:bz}(h:¬(g.pl<1\/4<g.pl\/g.ns.length<1\/2000<g.ns.length\/200<g.is.length))(ae:o3 g g.ns=0){es:List gq}(aG:dP g.ns (g.ns.length+1) (-1) 0 0=some (g.ns.length,es))(br:¬40<q7 es):h6 g=pK g:=by
 unfold h6;rw[ap h,ap (fun q=>q ae),aG];simp only;rw[ap (fun q=>q rfl),ap br];rfl
theorem QT{L vs:List Int}(h:vs.length=L.length):jF L 0 vs=vs:=by
 unfold jF;rw[Jt,me,wm (by omega),gg]
section
variable {Q:dI Tryz.prog}{g0:Nat}{J:aI}
abbrev L'(dd df ad cg:Nat)(g:bz)(aT:Option Addr)(aQ:Nat)(aL:Option Addr)(ci:Nat)(es:List gq):aO:=Fa dd df ad cg g aT aQ aL ci (es.map fun e=>e.1) (es.map fun e=>e.2.1) (es.map fun e=>e.2.2)
def SA(g:bz)(aT:Option Addr)(aQ:Nat)(aL:Option Addr)(ci:Nat)(J:aI):Value->aO->aI->Prop:=fun u m' ag=>J=ag/\∃v,u=.tuple #[v,.int .i64 (h6 g)]/\
 (h6 g=0->∃es dd df ad cg,dP g.ns (g.ns.length+1) (-1) 0 0=some (g.ns.length,es)/\v=.pointer (some ⟨dd,0,none⟩)/\m'=L' dd df ad cg g aT aQ aL ci es)
theorem mK{g:bz}{aT aL:Option Addr}{aQ ci:Nat}{m':aO}{e:Int}(aa:h6 g=e)(ae:e≠0):SA g aT aQ aL ci J (pE [.pointer none,.int .i64 e]) m' J:=
 ⟨rfl,_,by rw[aa];rfl,fun q=>absurd (aa.symm.trans q) ae⟩
theorem Z'{g:bz}{aT aL:Option Addr}{aQ ci:Nat}(aq:fG J g aT aQ aL ci):
 Fn (bb Q g0) 49 [hc g aT aQ aL ci] [] J (SA g aT aQ aL ci J):=by
 obtain⟨_,fD⟩:=aq.n.at;have fW:addrEq aL aL=true:=aq.i.addr;have gn:addrEq aT aT=true:=aq.n.addr;refine Fn.cH (cQ Tryz.func49) rfl rfl fun H=>?_;refine rg ?_;refine dJ fun bo=>?_;refine aM ?_;refine a8 ?_;refine fT [1] ?_;refine aj ?_;refine' ab.ht 0 [(35,.bool (decide ((g.pl<1\/4<g.pl\/g.ns.length<1\/2000<g.ns.length\/200<g.is.length))))] ?mT ?n1;case mT=>
  refine ab.region ?_;refine I V.bc ?_;refine I V.aF ?_;refine I V.a1 ?_;refine I V.ah ?_;refine dq 13 (fun n2=>?_) fun n2=>?_
  ·refine al ?_;refine al ?_;refine al ?_;refine I V.aV ?_;refine I V.ah ?_;refine al ?_;refine al ?_;refine al ?_;refine al ?_;refine I V.aV ?_;refine I V.ah ?_;refine al ?_;refine al ?_;refine al ?_;refine al ?_;refine I V.aV ?_;refine I V.ah ?_;refine al ?_;refine al ?_;refine al ?_;refine al ?_;refine I V.aV ?_;refine a8 ?_;exact ce
  ·refine aW V.bc ?_;refine aW V.aF ?_;refine aW V.a1 ?_;refine I V.aV ?_;refine I V.ah ?_;refine dq 18 (fun xa=>?_) fun xa=>?_
   ·refine al ?_;refine al ?_;refine al ?_;refine al ?_;refine I V.aV ?_;refine I V.ah ?_;refine al ?_;refine al ?_;refine al ?_;refine al ?_;refine I V.aV ?_;refine I V.ah ?_;refine al ?_;refine al ?_;refine al ?_;refine al ?_;refine I V.aV ?_;refine a8 ?_;exact ce
   ·refine aW V.bc ?_;refine aW V.aF ?_;refine aW V.bP ?_;refine aW V.a1 ?_;refine I V.aV ?_;refine I V.ah ?_;refine dq 24 (fun A1=>?_) fun A1=>?_
    ·refine al ?_;refine al ?_;refine al ?_;refine al ?_;refine I V.aV ?_;refine I V.ah ?_;refine al ?_;refine al ?_;refine al ?_;refine al ?_;refine I V.aV ?_;refine a8 ?_;exact ce
    ·refine aW V.bc ?_;refine aW V.aF ?_;refine aW V.bP ?_;refine aW V.a1 ?_;refine I V.aV ?_;refine I V.ah ?_;refine dq 30 (fun A2=>?_) fun A2=>?_
     ·refine al ?_;refine al ?_;refine al ?_;refine al ?_;refine I V.aV ?_;refine a8 ?_;exact ce
     ·refine aW V.bc ?_;refine aW V.aF ?_;refine aW V.bP ?_;refine aW V.a1 ?_;refine I V.aV ?_;refine a8 ?_;exact ce
 case n1=>
  refine aj ?_;refine If (fun hS=>?_) fun hS=>?_
  ·refine rg ?_;refine aM ?_;refine ns ?_;refine ab.ret ?_;refine'⟨.inr rfl,rfl,_,_,.tmp rfl (.tmp rfl .nil),(by first|exact .cons_cons _ (.cons_cons _ (.cons_cons _ (.cons_cons _ (iR _))))|exact iR _),?_⟩;first
    |exact mK (p' hS) (by decide)
    |exact mK ((DE hS (by rw[sP bB U jY];exact jY)).trans (sP bB U jY)) jY
    |exact mK (so hS gL (fun q=>tp (c7.1 q))) (by decide)
    |(have qe:=Gk (by obtain⟨e,r,aa,_,ae,_⟩:=IT ed;exact⟨e,r,aa,ae⟩:∃e r,es=e::r/\e.2.1=0)
      first
          |exact mK (p9 hS gL ed (by rw[qe];exact tr)) (by decide)
          |(have xp:=qa hS gL ed (by rw[qe];exact tr)
            rw[<-xp];exact⟨rfl,_,rfl,fun _=>⟨es,_,_,_,_,ed,rfl,rfl⟩⟩))
  ·refine aj ?_;refine ab.skip ?_;refine rg ?_;refine I V.c8 ?_;refine I V.jL ?_;refine dJ fun lQ=>?_;refine I V.aA ?_;refine bj ?_;refine I V.bc ?_;refine I V.aF ?_;refine aM ?_;refine ns ?_;refine ab.block ?_;refine' ab.c2 (l':=[(42,.int .i64 ((0):Int)),(1,_),(4,_),(40,_),(41,_)]) ⟨?Z6,rfl,rfl,rfl,rfl,trivial⟩ (bA _) ?_;case Z6=>exact bS
   refine aj ?_;refine' ab.dF (fun(i:Nat)=>⟨[(42,.int .i64 (i:Int))],jG lQ g aT aQ aL ci (.slice none 0 0) (.slice none 0 0) (.slice none 0 0)::[(bo,.row (iq g aT aQ aL ci) 27)],J,i<=g.ns.length/\∀x∈g.ns.take i,ev g x=0,g.ns.length -i⟩) (0) ?af ?bE;case af=>exact⟨cB _,fun x U=>by cases U⟩
   case bE=>
    rintro i hinv;try simp only at hinv
    obtain⟨ao,bB⟩:=hinv;refine rg ?_;refine I V.a1 ?_;refine ns ?_;refine If (fun abT=>?_) fun abT=>?_
    ·obtain⟨a,off,cells,bG,rfl,ms,ec⟩:=fD (by omega);obtain⟨x,cs,U,gV,_,ey⟩:=ec i (by omega) (by omega);obtain⟨bm,bt,bl,bw,b8,dh,rfl,eo,ga,gz⟩:=ey;have bd:addrEq bm bm=true:=by obtain⟨e,h⟩:=eo;exact h.addr
     have a6:addrEq bl bl=true:=by obtain⟨e,h⟩:=ga;exact h.addr
     have b9:addrEq b8 b8=true:=by obtain⟨e,h⟩:=gz;exact h.addr
     rw[cy] at U;refine c5 ?_;refine aj ?_;refine ab.block ?_;refine rg ?_;refine I V.aX ?_;refine I V.c8 ?_;refine' W.step rfl (.of (e4 rfl rfl rfl (om Q g0) rfl rfl rfl fun dc=>?_));refine dN ?_;refine bj ?_;refine I V.ah ?_;refine I V.c8 ?_;refine' W.step rfl (Exec.call rfl rfl rfl rfl rfl rfl rfl (bh:=[jG lQ g _ _ _ _ _ _ _]) (bW:=[_,_]) (fM 1 rfl (fM 0 rfl (fM 0 rfl .nil))) trivial (akW eo ga gz (by omega) (by omega) (by omega) fW) ?_);rintro v m' ag hle ⟨rfl,rfl,rfl⟩;refine I V.aA ?_;refine bj ?_;refine I V.ah ?_;refine I V.a1 ?_;refine ns ?_;refine If (fun jY=>?_) fun jY=>?_
     ·refine rg ?_;refine aM ?_;refine ns ?_;refine ab.ret ?_;refine'⟨.inr rfl,rfl,_,_,.tmp rfl (.tmp rfl .nil),(by first|exact .cons_cons _ (.cons_cons _ (.cons_cons _ (.cons_cons _ (iR _))))|exact iR _),?_⟩;first
        |exact mK (p' hS) (by decide)
        |exact mK ((DE hS (by rw[sP bB U jY];exact jY)).trans (sP bB U jY)) jY
        |exact mK (so hS gL (fun q=>tp (c7.1 q))) (by decide)
        |(have qe:=Gk (by obtain⟨e,r,aa,_,ae,_⟩:=IT ed;exact⟨e,r,aa,ae⟩:∃e r,es=e::r/\e.2.1=0)
          first
             |exact mK (p9 hS gL ed (by rw[qe];exact tr)) (by decide)
             |(have xp:=qa hS gL ed (by rw[qe];exact tr)
               rw[<-xp];exact⟨rfl,_,rfl,fun _=>⟨es,_,_,_,_,ed,rfl,rfl⟩⟩))
     ·refine aj ?_;refine ab.skip ?_;refine rg ?_;refine I V.bx ?_;refine I V.ah ?_;refine a8 ?_;refine cA (i+1) ?_ (hm:=.cons_cons _ (.cons _ (.cons_cons _ .slnil)));exact⟨by omega,sY bB U (gP.1 jY)⟩
    ·have fy:∀x∈g.ns,ev g x=0:=by
        rw[et (by omega)] at bB;exact bB
     have gL:=Xy fy;have nJ:∀x∈g.ns,x.ak.length<=60:=fun x U=>(EE (fy x U) (by omega)).1;refine aj ?_;refine ab.exit ?_;refine aj ?_;refine ab.draw rfl (by kernel_rfl) (bf:=[.val 0,.val 1,.val 2,.val 3,.val 4,.val 5,.gh 6,.val 7,.val 8,.val 9,.gh 10,.val 11,.val 12,.val 13,.gh 14,.val 15,.val 16,.cF [13,12,11,9,8,7,5,4,3,2,1,0],.bV 17,.val 18,.val 19,.cF [13,12,11,9,8,7,2,1],.bV 20,.val 21,.val 22,.cF [13,12,11,2],.bV 23]) (by kernel_rfl) ?_;refine cq ?_;refine an rfl V.aF ?_;refine an rfl V.bP ?_;refine a7.makeSlice rfl rfl rfl rfl rfl rfl rfl (eX Q g0) ?bD ?aa ?ae fun a59=>?_;case bD=>exact cf
     case aa=>exact cf
     case ae=>exact cf
     refine an rfl V.bc ?_;refine an rfl V.aF ?_;refine an rfl V.bP ?_;refine a7.makeSlice rfl rfl rfl rfl rfl rfl rfl (eX Q g0) ?bD ?aa ?ae fun wD=>?_;case bD=>exact cf
     case aa=>exact cf
     case ae=>exact cf
     refine an rfl V.bc ?_;refine an rfl V.aF ?_;refine an rfl V.bP ?_;refine a7.makeSlice rfl rfl rfl rfl rfl rfl rfl (eX Q g0) ?bD ?aa ?ae fun JC=>?_;case bD=>exact cf
     case aa=>exact cf
     case ae=>exact cf
     refine cq ?_;refine a7.cF fC ?_;refine kW rfl ?_;refine cq ?_;refine a7.cF fC ?_;refine kW rfl ?_;refine cq ?_;refine a7.cF fC ?_;refine kW rfl ?_;refine a7.nil ?_;rw[yi,cy];refine rg ?_;refine aM ?_;refine I V.aF ?_;refine' W.step rfl (Exec.call rfl rfl rfl rfl rfl rfl rfl (bh:=Fa lQ a59 wD JC g aT aQ aL ci (List.replicate g.ns.length 0) (List.replicate g.ns.length 0) (List.replicate g.ns.length 0)) (bW:=[_]) (fM 3 rfl (fM 2 rfl (fM 1 rfl (fM 0 rfl (fM 0 rfl .nil))))) trivial (api aq (by omega) nJ (g.ns.length+1) 0 (-1) 0 _ _ _ aT aQ (cB _) (by omega) (qU) (qU) (qU) (by omega) (by omega) aq.n) ?_);rintro v m' ag hle ⟨b',nL,ch,ok,CP,eK,gr,rfl,rfl,rfl,tM,jh,GV,hm⟩;refine aM ?_;refine a8 ?_;have c7:(∃es,dP g.ns (g.ns.length+1) (-1) 0 0=some (g.ns.length,es))↔(ok=true/\nL=0):=by
        cases ed:dP g.ns (g.ns.length+1) (-1) 0 0 with
        |none=>rw[ed] at hm;rw[hm];simp
        |some p=>
         obtain⟨b0,aN⟩:=p;rw[ed] at hm;obtain⟨aa,_,_,_,ae,_⟩:=hm;obtain⟨_,aG,_⟩:=qJ _ _ _ _ _ _ ed;rw[lO] at ae;subst aa;constructor
         ·rintro⟨es,q⟩;injection q with q;injection q with bd a6;exact⟨rfl,by omega⟩
         ·rintro⟨_,q⟩;exact⟨aN,by rw[show b0=g.ns.length by omega]⟩
     refine fT [8,9,4] ?_;refine aj ?_;refine' ab.ht 2 [(87,.bool (decide ((¬(ok=true/\nL=0)))))] ?acP ?adD;case acP=>
      refine ab.region ?_;refine I V.ah ?_;refine I V.oe ?_;refine I V.ah ?_;refine dq 83 (fun afG=>?_) fun afG=>?_
      ·
        refine al ?_;refine al ?_;refine al ?_;refine I V.aV ?_;refine a8 ?_;exact ce
      ·
        refine aW V.ah ?_;refine aW V.bP ?_;refine aW V.a1 ?_;refine I V.aV ?_;refine a8 ?_;exact ce
     case adD=>
      refine aj ?_;refine If (fun tp=>?_) fun tp=>?_
      ·
        refine rg ?_;refine aM ?_;refine ns ?_;refine ab.ret ?_;refine'⟨.inr rfl,rfl,_,_,.tmp rfl (.tmp rfl .nil),(by first|exact .cons_cons _ (.cons_cons _ (.cons_cons _ (.cons_cons _ (iR _))))|exact iR _),?_⟩;first
         |exact mK (p' hS) (by decide)
         |exact mK ((DE hS (by rw[sP bB U jY];exact jY)).trans (sP bB U jY)) jY
         |exact mK (so hS gL (fun q=>tp (c7.1 q))) (by decide)
         |(have qe:=Gk (by obtain⟨e,r,aa,_,ae,_⟩:=IT ed;exact⟨e,r,aa,ae⟩:∃e r,es=e::r/\e.2.1=0)
           first
               |exact mK (p9 hS gL ed (by rw[qe];exact tr)) (by decide)
               |(have xp:=qa hS gL ed (by rw[qe];exact tr)
                 rw[<-xp];exact⟨rfl,_,rfl,fun _=>⟨es,_,_,_,_,ed,rfl,rfl⟩⟩))
      ·
        obtain⟨es,ed⟩:=c7.2 (gP.1 tp);rw[ed] at hm;obtain⟨_,_,he⟩:=qJ _ _ _ _ _ _ ed;obtain⟨_,rfl,rfl,rfl,_,_⟩:=hm;have dD:jF (List.replicate g.ns.length 0) 0 (es.map fun e=>e.1)=es.map fun e=>e.1:=QT (by simp[he]);have jg:jF (List.replicate g.ns.length 0) 0 (es.map fun e=>e.2.1)=es.map fun e=>e.2.1:=QT (by simp[he]);have bT:jF (List.replicate g.ns.length 0) 0 (es.map fun e=>e.2.2)=es.map fun e=>e.2.2:=QT (by simp[he]);rw[dD,jg,bT];have vE:(es.map fun e=>e.2.1).length=g.ns.length:=by simp[he]
        refine nf ?_;refine aM ?_;refine I V.aF ?_;refine' W.step rfl (Exec.call rfl rfl rfl rfl rfl rfl rfl (bh:=L' lQ a59 wD JC g aT aQ aL ci es) (bW:=[_]) (.refl _) trivial ((by have h:=aku (Q:=Q) (g0:=g0) (J:=J) (gk:=L' lQ a59 wD JC g aT aQ aL ci es) (l:=es.map fun e=>e.2.1) (c:=g.ns.length) (jJ.own (.tail _ (.tail _ (.head _)))) (by omega) (by omega);rw[vE] at h;exact h)) ?_);rintro v m' ag hle ⟨rfl,rfl,rfl⟩;refine I V.a1 ?_;refine ns ?_;refine If (fun tr=>?_) fun tr=>?_
        ·refine rg ?_;refine aM ?_;refine ns ?_;refine ab.ret ?_;refine'⟨.inr rfl,rfl,_,_,.tmp rfl (.tmp rfl .nil),(by first|exact .cons_cons _ (.cons_cons _ (.cons_cons _ (.cons_cons _ (iR _))))|exact iR _),?_⟩;first
          |exact mK (p' hS) (by decide)
          |exact mK ((DE hS (by rw[sP bB U jY];exact jY)).trans (sP bB U jY)) jY
          |exact mK (so hS gL (fun q=>tp (c7.1 q))) (by decide)
          |(have qe:=Gk (by obtain⟨e,r,aa,_,ae,_⟩:=IT ed;exact⟨e,r,aa,ae⟩:∃e r,es=e::r/\e.2.1=0)
            first
                |exact mK (p9 hS gL ed (by rw[qe];exact tr)) (by decide)
                |(have xp:=qa hS gL ed (by rw[qe];exact tr)
                  rw[<-xp];exact⟨rfl,_,rfl,fun _=>⟨es,_,_,_,_,ed,rfl,rfl⟩⟩))
        ·refine aj ?_;refine ab.skip ?_;refine rg ?_;refine aM ?_;refine' W.step rfl (Exec.call rfl rfl rfl rfl rfl rfl rfl (bh:=L' lQ a59 wD JC g aT aQ aL ci es) (bW:=[_]) (.refl _) trivial (anv aq fy (by omega) (by omega)) ?_);rintro v m' ag hle ⟨rfl,rfl,rfl⟩;refine aM ?_;refine ns ?_;refine ab.ret ?_;refine'⟨.inr rfl,rfl,_,_,.tmp rfl (.tmp rfl .nil),(by first|exact .cons_cons _ (.cons_cons _ (.cons_cons _ (.cons_cons _ (iR _))))|exact iR _),?_⟩;first
          |exact mK (p' hS) (by decide)
          |exact mK ((DE hS (by rw[sP bB U jY];exact jY)).trans (sP bB U jY)) jY
          |exact mK (so hS gL (fun q=>tp (c7.1 q))) (by decide)
          |(have qe:=Gk (by obtain⟨e,r,aa,_,ae,_⟩:=IT ed;exact⟨e,r,aa,ae⟩:∃e r,es=e::r/\e.2.1=0)
            first
                |exact mK (p9 hS gL ed (by rw[qe];exact tr)) (by decide)
                |(have xp:=qa hS gL ed (by rw[qe];exact tr)
                  rw[<-xp];exact⟨rfl,_,rfl,fun _=>⟨es,_,_,_,_,ed,rfl,rfl⟩⟩))
theorem NN{g:bz}{aT aL:Option Addr}{aQ ci:Nat}(aq:fG J g aT aQ aL ci):
 Fn (bb Q g0) 27 [hc g aT aQ aL ci] [] J (tg (.int .i64 (h6 g)) J):=by
 refine Fn.cH (cQ Tryz.func27) rfl rfl fun H=>?_;refine rg ?_;refine dJ fun bo=>?_;refine I V.aA ?_;refine bj ?_;refine I V.c8 ?_;refine' W.step rfl (Exec.call rfl rfl rfl rfl rfl rfl rfl (bh:=[]) (bW:=[_]) (.refl _) trivial (Z' aq) ?_);rintro v m' ag hle ⟨rfl,w,rfl,_⟩;refine aM ?_;refine bj ?_;refine aM ?_;refine ns ?_;refine ab.ret ?_;refine c' ?_;exact⟨rfl,rfl,aI.le.refl _⟩
end
end
end Go.Opn

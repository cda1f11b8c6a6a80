/- A part of the proof of TableMetric. -/
import Derived.Test.YtmmfodofkbmfnaaGreatDoorCbb
import Derived.Test.YtmmfodofkbmfnaaGreatDoorCar
set_option maxRecDepth 100000
set_option maxHeartbeats 8000000
set_option linter.unusedVariables false
set_option linter.unusedSimpArgs false
namespace Go.Opn
noncomputable section
open Go.Cre Go.RowKit Go.Proofs
def hx(d:Nat):Nat:=if d=1 then 0 else d
structure fE (J:an) (r:cv) (v1 v2:Value):Prop where
 n:cn J v1 r.z.natAbs
 d:cn J v2 (hx r.d)
theorem fE.mono{J ai:an}(hle:J.le ai){r:cv}{v1 v2:Value}(h:fE J r v1 v2):fE ai r v1 v2:=⟨h.n.mono hle,h.d.mono hle⟩
abbrev r2(r:cv)(v1 v2:Value):List Value:=[.bool (decide (r.z<0)),v1,v2]
abbrev dF(r:cv)(v1 v2:Value):Value:=.agg #[.bool (decide (r.z<0)),v1,v2]
abbrev n2(J:an)(r:cv):Value->aU->an->Prop:=fun u m' ai=>J.le ai/\m'=[]/\∃v1 v2,u=dF r v1 v2/\fE ai r v1 v2
theorem DP{r:cv}(h:r.fi)(a0:r.z=0):r.d=1:=by
 have:=h.2;rw[a0] at this;exact(Nat.gcd_zero_left r.d).symm.trans this
section
variable {Q:eF Tryz.prog}{g0:Nat}{J:an}
theorem B8{r:cv}{v w:Value}{neg:Bool}(U:cn J v r.z.natAbs)(ab:cn J w r.d)(aE:r.z≠0->neg=decide (r.z<0))(a0:r.z=0->r.d=1)(ax:r.d≠0):Fn (aS Q g0) 72 [.bool neg,v,w] [] J (n2 J r):=by
 have gS:=U;have g1:=ab;obtain⟨bV,cV,bE,rfl,aQ,eu,gI⟩:=U.un;obtain⟨b7,dn,b8,rfl,aP,eX,gW⟩:=ab.un;refine Fn.cH (cK Tryz.func72) rfl rfl fun H=>?_;refine rg ?_;refine' W.step rfl (.of (gN rfl rfl rfl (ly Q g0) rfl rfl rfl fun ey=>?_));refine bg ?_;refine aH ?_;refine I V.bk ?_;refine aJ ?_;refine If (fun gQ=>?_) fun gQ=>?_
 ·refine rg ?_;refine I V.kH ?_;refine fM ?_;refine aJ ?_;refine ad.ret ?_;refine'⟨.inr rfl,rfl,_,[],.cell rfl (by repeat first|exact .head _|refine .tail _ ?_|refine eU _ ?_) (gh (fs rfl) rfl) (.nil),b1 _,?_⟩;first
   |(have fC:r.z=0:=by
         rcases eu with h|h
         ·exact me.1 h.1
         ·omega
     exact⟨an.le.refl _,rfl,.slice none 0 0,.slice none 0 0,by rw[show dF r (.slice none 0 0) (.slice none 0 0)=.agg #[.bool (decide (r.z<0)),.slice none 0 0,.slice none 0 0] from rfl,fC];rfl,by rw[fC];exact cn.nil,by unfold hx;rw[bs (a0 fC)];exact cn.nil⟩)
 ·refine aM ?_;refine ad.skip ?_;refine rg ?_;refine I V.aT ?_;refine cm (G:=wC g1) (h:=?_);rintro v' m' ai hle ⟨rfl,rfl,rfl⟩;refine aJ ?_;refine If (fun kI=>?_) fun kI=>?_
  ·refine rg ?_;refine I V.aI ?_;refine bg ?_;refine aH ?_;refine fM ?_;refine aJ ?_;refine ad.ret ?_;refine'⟨.inr rfl,rfl,_,[],.cell rfl (by repeat first|exact .head _|refine .tail _ ?_|refine eU _ ?_) (gh (fs rfl) rfl) (.nil),b1 _,?_⟩;first
    |(have c:=kI
      have fC:r.z≠0:=fun q=>gQ (by rw[q] at eu;have:cV=0:=by rcases eu with h|h<;>simp at h<;>omega
                                   omega)
      first
          |exact⟨an.le.refl _,rfl,_,_,by rw[aE fC];rfl,gS,by unfold hx;rw[bs c];exact cn.nil⟩
          |exact⟨an.le.refl _,rfl,_,_,by rw[aE fC];rfl,gS,by unfold hx;rw[a1 c];exact g1⟩)
    |(have fC:r.z=0:=by
          rcases eu with h|h
          ·exact me.1 h.1
          ·omega
      exact⟨an.le.refl _,rfl,.slice none 0 0,.slice none 0 0,by rw[show dF r (.slice none 0 0) (.slice none 0 0)=.agg #[.bool (decide (r.z<0)),.slice none 0 0,.slice none 0 0] from rfl,fC];rfl,by rw[fC];exact cn.nil,by unfold hx;rw[bs (a0 fC)];exact cn.nil⟩)
  ·refine aM ?_;refine ad.skip ?_;refine rg ?_;refine aH ?_;refine fM ?_;refine aJ ?_;refine ad.ret ?_;refine'⟨.inr rfl,rfl,_,[],.cell rfl (by repeat first|exact .head _|refine .tail _ ?_|refine eU _ ?_) (gh (fs rfl) rfl) (.nil),b1 _,?_⟩;first
    |(have c:=kI
      have fC:r.z≠0:=fun q=>gQ (by rw[q] at eu;have:cV=0:=by rcases eu with h|h<;>simp at h<;>omega
                                   omega)
      first
          |exact⟨an.le.refl _,rfl,_,_,by rw[aE fC];rfl,gS,by unfold hx;rw[bs c];exact cn.nil⟩
          |exact⟨an.le.refl _,rfl,_,_,by rw[aE fC];rfl,gS,by unfold hx;rw[a1 c];exact g1⟩)
    |(have fC:r.z=0:=by
          rcases eu with h|h
          ·exact me.1 h.1
          ·omega
      exact⟨an.le.refl _,rfl,.slice none 0 0,.slice none 0 0,by rw[show dF r (.slice none 0 0) (.slice none 0 0)=.agg #[.bool (decide (r.z<0)),.slice none 0 0,.slice none 0 0] from rfl,fC];rfl,by rw[fC];exact cn.nil,by unfold hx;rw[bs (a0 fC)];exact cn.nil⟩)
theorem mm{r:cv}{v1 v2:Value}{neg:Bool}(h:fE J r v1 v2)(ax:r.d≠0):Fn (aS Q g0) 66 [.agg #[.bool neg,v1,v2]] [] J (hS J r.d):=by
 have g1:=h.d;obtain⟨bV,cV,bE,rfl,aQ,eu,gI⟩:=h.n.un;obtain⟨b7,dn,b8,rfl,aP,eX,gW⟩:=h.d.un;refine Fn.cH (cK Tryz.func66) rfl rfl fun H=>?_;refine rg ?_;refine fl fun bP=>?_;refine I V.aI ?_;refine bg ?_;refine I V.cN ?_;refine I V.cP ?_;refine I V.h2 ?_;refine I V.bk ?_;refine aJ ?_;refine If (fun e1=>?_) fun e1=>?_
 ·refine rg ?_;refine jA (jQ Q g0) fun gE=>?_;refine I V.aI ?_;refine bU ?_;refine ad.ju rfl fun bW=>?_;refine aM ?_;refine ad.ret ?_;refine'⟨.inr rfl,rfl,_,[],.tmp rfl .nil,b1 _,?_⟩;first
   |(have c:=e1
     first
         |exact⟨bW,rfl,by
             have e:r.d=1:=by
              rcases eX with⟨p,_⟩|⟨_,p⟩
              ·unfold hx at p;split at p<;>omega
              ·omega
             rw[e];exact cn.row (n:=1) (l:=[1]) rfl (by simp) (by simp) (by decide) (an.h6 _ _ _)⟩
         |exact⟨an.le.refl _,rfl,by
             have e:hx r.d=r.d:=by
              rcases eX with⟨_,p⟩|⟨p,_⟩
              ·omega
              ·unfold hx at*;split at p
               ·exact absurd rfl p
               ·rename_i q;rw[a1 q]
             rw[e] at g1;exact g1⟩)
 ·refine aM ?_;refine ad.skip ?_;refine rg ?_;refine I V.cN ?_;refine I V.cP ?_;refine I V.aI ?_;refine aJ ?_;refine ad.ret ?_;refine'⟨.inr rfl,rfl,_,[],.tmp rfl .nil,b1 _,?_⟩;first
   |(have c:=e1
     first
         |exact⟨bW,rfl,by
             have e:r.d=1:=by
              rcases eX with⟨p,_⟩|⟨_,p⟩
              ·unfold hx at p;split at p<;>omega
              ·omega
             rw[e];exact cn.row (n:=1) (l:=[1]) rfl (by simp) (by simp) (by decide) (an.h6 _ _ _)⟩
         |exact⟨an.le.refl _,rfl,by
             have e:hx r.d=r.d:=by
              rcases eX with⟨_,p⟩|⟨p,_⟩
              ·omega
              ·unfold hx at*;split at p
               ·exact absurd rfl p
               ·rename_i q;rw[a1 q]
             rw[e] at g1;exact g1⟩)
theorem Wf{r:cv}{v1 v2:Value}(h:fE J r v1 v2):Fn (aS Q g0) 73 [dF r v1 v2] [] J (fun u m' ai=>u=dF ⟨-r.z,r.d⟩ v1 v2/\m'=[]/\J=ai):=by
 obtain⟨bV,cV,bE,rfl,aQ,eu,gI⟩:=h.n.un;obtain⟨b7,dn,b8,rfl,aP,eX,gW⟩:=h.d.un;refine Fn.cH (cK Tryz.func73) rfl rfl fun H=>?_;refine rg ?_;refine fl fun bP=>?_;refine' W.step rfl (.of (gN rfl rfl rfl (ly Q g0) rfl rfl rfl fun bS=>?_));refine bg ?_;refine I V.cN ?_;refine I V.cP ?_;refine I V.pO ?_;refine I V.aT ?_;refine gP 6 (fun jE=>?_) fun jE=>?_
 ·refine bF V.cN ?_;refine bF V.cP ?_;refine bF V.h2 ?_;refine bF V.bk ?_;refine I V.bx ?_;refine I V.cN ?_;refine I V.cP ?_;refine I V.cN ?_;refine I V.cP ?_;refine I V.kH ?_;refine fM ?_;refine aJ ?_;refine ad.ret ?_;refine'⟨.inr rfl,rfl,_,[],.cell rfl (by repeat first|exact .head _|refine .tail _ ?_|refine eU _ ?_) (gh (fs rfl) rfl) (.nil),b1 _,?_⟩;first
   |(have c:=jE
     refine⟨?_,rfl,rfl⟩;show Value.agg #[.bool _,_,_]=Value.agg #[.bool _,_,_];congr 4
     first
         |(by_cases q:0<r.z
           ·rw[hv (show -r.z<0 by omega)];try (first|(simp;done)|(simp;omega))
           ·rw[gd (show ¬-r.z<0 by omega)];try (first|(simp;done)|(simp;simp at c;omega))))
 ·refine cz ?_;refine cz ?_;refine cz ?_;refine cz ?_;refine I V.bx ?_;refine I V.cN ?_;refine I V.cP ?_;refine I V.cN ?_;refine I V.cP ?_;refine I V.kH ?_;refine fM ?_;refine aJ ?_;refine ad.ret ?_;refine'⟨.inr rfl,rfl,_,[],.cell rfl (by repeat first|exact .head _|refine .tail _ ?_|refine eU _ ?_) (gh (fs rfl) rfl) (.nil),b1 _,?_⟩;first
   |(have c:=jE
     refine⟨?_,rfl,rfl⟩;show Value.agg #[.bool _,_,_]=Value.agg #[.bool _,_,_];congr 4
     first
         |(by_cases q:0<r.z
           ·rw[hv (show -r.z<0 by omega)];try (first|(simp;done)|(simp;omega))
           ·rw[gd (show ¬-r.z<0 by omega)];try (first|(simp;done)|(simp;simp at c;omega))))
theorem Pc{r:cv}{v1 v2:Value}(h:fE J r v1 v2):Fn (aS Q g0) 43 [dF r v1 v2] [] J (fun u m' ai=>u=dF ⟨(r.z.natAbs:Int),r.d⟩ v1 v2/\m'=[]/\J=ai):=by
 obtain⟨bV,cV,bE,rfl,aQ,eu,gI⟩:=h.n.un;obtain⟨b7,dn,b8,rfl,aP,eX,gW⟩:=h.d.un;refine Fn.cH (cK Tryz.func43) rfl rfl fun H=>?_;refine rg ?_;refine fl fun bP=>?_;refine' W.step rfl (.of (gN rfl rfl rfl (ly Q g0) rfl rfl rfl fun bS=>?_));refine bg ?_;refine I V.cN ?_;refine I V.cP ?_;refine I V.cN ?_;refine I V.cP ?_;refine I V.kH ?_;refine fM ?_;refine aJ ?_;refine ad.ret ?_;refine'⟨.inr rfl,rfl,_,[],.cell rfl (by repeat first|exact .head _|refine .tail _ ?_|refine eU _ ?_) (gh (fs rfl) rfl) (.nil),b1 _,⟨by rw[show dF (⟨(r.z.natAbs:Int),r.d⟩:cv) (.slice bV cV bE) (.slice b7 dn b8)=.agg #[.bool (decide ((r.z.natAbs:Int)<0)),.slice bV cV bE,.slice b7 dn b8] from rfl,gd (show ¬((r.z.natAbs:Int)<0) by omega)];rfl,rfl,rfl⟩⟩
theorem Yq{dw dZ:Int}{L0 L1:Bool}{v w:Value}(aA:L0=decide (dw<0))(aW:L1=decide (dZ<0))(U:cn J v dw.natAbs)(ab:cn J w dZ.natAbs)(gC:dw≠0)(oV:dZ≠0)(af:dw.natAbs+dZ.natAbs<18446744073709551616):Fn (aS Q g0) 71 [.bool L0,v,.bool L1,w] [] J (fun u m' ai=>J.le ai/\m'=[]/\∃b w,u=.tuple #[.bool b,w]/\cn ai w (dw+dZ).natAbs/\(dw+dZ≠0->b=decide (dw+dZ<0))):=by
 subst aA;subst aW;have gS:=U;have g1:=ab;obtain⟨bV,cV,bE,rfl,aQ,eu,gI⟩:=U.un;obtain⟨b7,dn,b8,rfl,aP,eX,gW⟩:=ab.un;refine Fn.cH (cK Tryz.func71) rfl rfl fun H=>?_;refine rg ?_;refine aH ?_;refine bU ?_;refine ma [0,1,2,3] ?_;refine aM ?_;refine' ad.nd 0 [(12,.bool (decide (((dw<0)↔(dZ<0)))))] ?ts ?tw;case ts=>
  refine ad.region ?_;refine aH ?_;refine' W.step rfl (Exec.val rfl rfl (z1 rfl rfl rfl (.inl ⟨rfl,rfl⟩) (by kernel_rfl)) ?_);refine bU ?_;refine'⟨⟨_,rfl,⟨?zu,rfl,rfl,rfl,rfl,trivial⟩⟩,cl _,rfl⟩;case zu=>first|exact pe rfl (by first|omega|(by_cases a:dw<0<;>by_cases b:dZ<0<;>simp[a,b]))|exact pc rfl (by first|omega|(by_cases a:dw<0<;>by_cases b:dZ<0<;>simp[a,b]))|exact pd rfl (by first|omega|(by_cases a:dw<0<;>by_cases b:dZ<0<;>simp[a,b]))|exact pb rfl (by first|omega|(by_cases a:dw<0<;>by_cases b:dZ<0<;>simp[a,b]))
 case tw=>
  refine aM ?_;refine If (fun kI=>?_) fun kI=>?_
  ·refine rg ?_;refine aH ?_;refine cm (G:=Xw gS g1 (by omega) (by omega) af) (h:=?_);rintro v' m' bO a' ⟨_,rfl,hw⟩;have ox:=hw;obtain⟨c5,ep,dj,rfl,bC,_,_⟩:=hw.un;refine aH ?_;refine aJ ?_;refine ad.ret ?_;refine'⟨.inr rfl,rfl,_,[],.tmp rfl (.tmp rfl .nil),b1 _,?_⟩;refine⟨a',rfl,_,_,rfl,?_,fun a2=>?_⟩
   ·first
        |(rw[show(dw+dZ).natAbs=dw.natAbs+dZ.natAbs by omega];exact ox)
        |(rw[show(dw+dZ).natAbs=dZ.natAbs -dw.natAbs by omega];exact ox)
        |(rw[show(dw+dZ).natAbs=dw.natAbs -dZ.natAbs by omega];exact ox)
   ·first
        |(by_cases a:dw<0
          ·rw[hv a,hv (by omega)]
          ·rw[gd a,gd (by omega)])
        |(by_cases a:dZ<0
          ·rw[hv a,hv (by omega)]
          ·rw[gd a,gd (by omega)])
  ·refine aM ?_;refine ad.skip ?_;refine rg ?_;refine aH ?_;refine cm (G:=x0 gS g1) (h:=?_);rintro v' m' ai hle ⟨rfl,rfl,rfl⟩;refine I V.bk ?_;refine aJ ?_;refine If (fun kk=>?_) fun kk=>?_
   ·have cx:=rT.1 kk;refine rg ?_;refine aH ?_;refine cm (G:=LP g1 gS (by omega) (by omega) (by omega) (by omega)) (h:=?_);rintro v' m' bO a' ⟨_,rfl,hw⟩;have ox:=hw;obtain⟨c5,ep,dj,rfl,bC,_,_⟩:=hw.un;refine aH ?_;refine aJ ?_;refine ad.ret ?_;refine'⟨.inr rfl,rfl,_,[],.tmp rfl (.tmp rfl .nil),b1 _,?_⟩;refine⟨a',rfl,_,_,rfl,?_,fun a2=>?_⟩
    ·first
      |(rw[show(dw+dZ).natAbs=dw.natAbs+dZ.natAbs by omega];exact ox)
      |(rw[show(dw+dZ).natAbs=dZ.natAbs -dw.natAbs by omega];exact ox)
      |(rw[show(dw+dZ).natAbs=dw.natAbs -dZ.natAbs by omega];exact ox)
    ·first
      |(by_cases a:dw<0
        ·rw[hv a,hv (by omega)]
        ·rw[gd a,gd (by omega)])
      |(by_cases a:dZ<0
        ·rw[hv a,hv (by omega)]
        ·rw[gd a,gd (by omega)])
   ·have hZ:=Nat.le_of_not_lt fun h=>kk (rT.2 h);refine lf ?_;refine aH ?_;refine cm (G:=LP gS g1 (by omega) (by omega) hZ (by omega)) (h:=?_);rintro v' m' bO a' ⟨_,rfl,hw⟩;have ox:=hw;obtain⟨c5,ep,dj,rfl,bC,_,_⟩:=hw.un;refine aH ?_;refine aJ ?_;refine ad.ret ?_;refine'⟨.inr rfl,rfl,_,[],.tmp rfl (.tmp rfl .nil),b1 _,?_⟩;refine⟨a',rfl,_,_,rfl,?_,fun a2=>?_⟩
    ·first
      |(rw[show(dw+dZ).natAbs=dw.natAbs+dZ.natAbs by omega];exact ox)
      |(rw[show(dw+dZ).natAbs=dZ.natAbs -dw.natAbs by omega];exact ox)
      |(rw[show(dw+dZ).natAbs=dw.natAbs -dZ.natAbs by omega];exact ox)
    ·first
      |(by_cases a:dw<0
        ·rw[hv a,hv (by omega)]
        ·rw[gd a,gd (by omega)])
      |(by_cases a:dZ<0
        ·rw[hv a,hv (by omega)]
        ·rw[gd a,gd (by omega)])
end
end
end Go.Opn
namespace Go.Opn
noncomputable section
theorem Gf{z:Int}{h:Nat}(ao:0<h)(ax:h ∣ z.natAbs):∃q:Int,z=q*h/\z.natAbs / h=q.natAbs/\(z<0↔q<0)/\(z=0↔q=0):=by
 obtain⟨q,bY⟩:=C6.2 ax;have e:z=q*h:=by rw[bY,jv]
 have aq:(0:Int)<h:=by omega
 refine⟨q,e,?_,?_,?_⟩
 ·rw[e,iC,iD,qe _ ao]
 ·rw[e];constructor
  ·intro k;rcases p8 q 0 with aa|aa
   ·exact aa
   ·have:=u7 aa (Ao aq);omega
  ·intro k;exact xm k aq
 ·rw[e];constructor
  ·intro k;rcases Int.mul_eq_zero.1 k with aa|aa
   ·exact aa
   ·omega
  ·intro k;rw[k,u']
theorem x5{n g:Nat}(ao:0<g)(aE:0<n)(ax:g ∣ n):∃u,n / g=u/\n=u*g/\0<u/\u<=n:=by
 obtain⟨u,hu⟩:=ax;have nx:n=u*g:=by rw[hu,lD]
 have a2:0<u:=by
  rcases ke u with k|k
  ·rw[k,qf] at nx;omega
  ·exact k
 exact⟨u,by rw[nx,qe _ ao],nx,a2,by rw[nx];exact Nat.le_mul_of_pos_right _ ao⟩
structure On (r s:cv) (g u v h w:Nat) (t q:Int):Prop where
 g0:0<g
 b4:Nat.gcd r.d s.d=g
 jS:r.d / g=u
 v1:s.d / g=v
 Zp:0<u
 ig:0<v
 mY:u<=r.d
 v2:v<=s.d
 t1:t=r.z*v+s.z*u
 a2:0<h
 U:Nat.gcd t.natAbs g=h
 aQ:t.natAbs / h=q.natAbs
 aP:t<0↔q<0
 bC:t=0↔q=0
 bc:s.d / h=w
 w0:0<w
 b6:w<=s.d
 b0:g<=r.d
 je:t=0->r.z*s.d+s.z*r.d=0
 rc:(⟨q,u*w⟩:cv)=a9 (r.z*s.d+s.z*r.d) (r.d*s.d)
theorem Pe{r s:cv}(ap:r.fi)(ag:s.fi):∃g u v h w t q,On r s g u v h w t q:=by
 have rd:=ap.1;have gM:=ag.1;have ar:0<Nat.gcd r.d s.d:=OX _ rd;obtain⟨u,aA,aW,cr,dU⟩:=x5 ar rd (vf _ _);obtain⟨v,f1,f2,f3,f4⟩:=x5 ar gM (te _ _);have cF:0<Nat.gcd (r.z*v+s.z*u).natAbs (Nat.gcd r.d s.d):=rF _ ar;obtain⟨q,aQ,aP,bC,dp⟩:=Gf cF (vf _ _);obtain⟨w,bc,b6,dX,l8⟩:=x5 cF gM (Nat.dvd_trans (te _ _) (te _ _));refine⟨_,u,v,_,w,_,q,ar,rfl,aA,f1,cr,f3,dU,f4,rfl,cF,rfl,aP,bC,dp,bc,dX,l8,Nat.le_of_dvd rd (vf _ _),fun a2=>?_,Vm ap ag rfl aW f2 rfl rfl aQ b6⟩;have:(r.z*v+s.z*u)*(Nat.gcd r.d s.d:Nat)=r.z*s.d+s.z*r.d:=by
  have a8:(s.d:Int)=v*(Nat.gcd r.d s.d:Nat):=by rw[<-gw,<-f2]
  have a5:(r.d:Int)=u*(Nat.gcd r.d s.d:Nat):=by rw[<-gw,<-aW]
  rw[An];conv=>rhs;rw[a8,a5]
  rw[iB,iB]
 rw[<-this,a2,u']
structure OT (r s:cv) (g h b e:Nat) (p q:Int):Prop where
 g0:0<g
 b4:Nat.gcd r.z.natAbs s.d=g
 a2:0<h
 U:Nat.gcd s.z.natAbs r.d=h
 dG:r.z.natAbs / g=p.natAbs
 iN:r.z<0↔p<0
 aQ:s.z.natAbs / h=q.natAbs
 aP:s.z<0↔q<0
 kw:p≠0
 bC:q≠0
 bV:r.d / h=b
 IJ:0<b
 b7:b<=r.d
 aA:s.d / g=e
 h7:0<e
 aW:e<=s.d
 wS:p.natAbs<=r.z.natAbs
 dp:q.natAbs<=s.z.natAbs
 rc:(⟨p*q,b*e⟩:cv)=a9 (r.z*s.z) (r.d*s.d)
theorem V2{r s:cv}(ap:r.fi)(ag:s.fi)(w2:r.z≠0)(sz:s.z≠0):∃g h b e p q,OT r s g h b e p q:=by
 have rd:=ap.1;have gM:=ag.1;have ar:0<Nat.gcd r.z.natAbs s.d:=rF _ gM;have cF:0<Nat.gcd s.z.natAbs r.d:=rF _ rd;obtain⟨p,dG,iN,kw,wS⟩:=Gf ar (vf _ _);obtain⟨q,aQ,aP,bC,dp⟩:=Gf cF (vf _ _);obtain⟨b,bV,b7,c5,dM⟩:=x5 cF rd (te _ _);obtain⟨e,aA,aW,cr,dU⟩:=x5 ar gM (te _ _);refine⟨_,_,b,e,p,q,ar,rfl,cF,rfl,iN,kw,aP,bC,fun k=>w2 (wS.2 k),fun k=>sz (dp.2 k),bV,c5,dM,aA,cr,dU,by rw[<-iN];exact ve _ _,by rw[<-aP];exact ve _ _,?_⟩;exact Vn (a:=0) (c:=0) ap ag rfl rfl w2 sz dG aQ b7 aW
theorem Gl{X Y:Int}{d e:Nat}(ax:0<d)(he:0<e):a9 ((a9 X d).z*(a9 Y e).d+(a9 Y e).z*(a9 X d).d) ((a9 X d).d*(a9 Y e).d)=a9 (X*e+Y*d) (d*e):=by
 have bE:=(jN (z:=X) ax).1;have b8:=(jN (z:=Y) he).1;have U:=sD (z:=X) ax;have ab:=sD (z:=Y) he;rw[zA (gm bE b8) (gm ax he)];generalize (a9 X d).z=a at*;generalize (a9 Y e).z=b at*;generalize (a9 X d).d=p at*;generalize (a9 Y e).d=q at*;rw[gw,gw,An,An];congr 1
 ·calc a*q*(d*e)=(a*d)*(q*e):=by simp only[iB,jv,kV]
   _=X*p*(q*e):=by rw[U]
   _=X*e*(p*q):=by simp only[iB,jv,kV]
 ·calc b*p*(d*e)=(b*e)*(p*d):=by simp only[iB,jv,kV]
   _=Y*q*(p*d):=by rw[ab]
   _=Y*d*(p*q):=by simp only[iB,jv,kV]
theorem Ma{X Y:Int}{d:Nat}(ax:0<d):a9 ((a9 X d).z*(a9 Y d).d+(a9 Y d).z*(a9 X d).d) ((a9 X d).d*(a9 Y d).d)=a9 (X+Y) d:=by
 rw[Gl ax ax,zA (gm ax ax) ax,<-An,gw,iB]
theorem Wu{X:Int}{d:Nat}(ax:0<d):(⟨-(a9 X d).z,(a9 X d).d⟩:cv)=a9 (-X) d:=by
 have c:=jN (z:=X) ax;refine sE ⟨c.1,?_⟩ ax ?_
 ·show Nat.Coprime (-(a9 X d).z).natAbs _;rw[xn];exact c.2
 ·show -(a9 X d).z*d=-X*(a9 X d).d;rw[Aq,sD ax,Aq]
theorem Ws{X:Int}{d:Nat}(ax:0<d):(⟨((a9 X d).z.natAbs:Int),(a9 X d).d⟩:cv)=a9 (X.natAbs:Int) d:=by
 have c:=jN (z:=X) ax;refine sE ⟨c.1,c.2⟩ ax ?_;have h:=ak Int.natAbs (sD (z:=X) ax);rw[iC,iC,iD,iD] at h;show((a9 X d).z.natAbs:Int)*(d:Int)=(X.natAbs:Int)*((a9 X d).d:Int);rw[<-gw,<-gw,h]
theorem Wt{X:Int}{d:Nat}(ax:0<d):a9 ((a9 X d).z*1) ((a9 X d).d*2)=a9 X (d*2):=by
 have c:=jN (z:=X) ax;rw[zA (gm c.1 (by decide)) (gm ax (by decide)),HI,gw,gw,<-iB,sD ax,iB]
end
end Go.Opn
namespace Go.Opn
noncomputable section
open Go.Cre Go.RowKit Go.Proofs
theorem cn.lu{J ai:an}{v w:Value}{x y:Nat}(h:cn J v x)(fO:cn ai w y)(hle:J.le ai)(e:v=w):x=y:=by subst e;exact h.sX fO hle
theorem n3(b:Bool):IT b b=true:=by cases b<;>rfl
theorem Q5{d e:Nat}(ax:0<d)(he:0<e)(h:hx d=hx e):d=e:=by
 unfold hx at h;split at h<;>split at h<;>omega
theorem fE.x4{J ai:an}{r s:cv}{v1 v2 bc b6:Value}{x y:Bool}(h:fE J r v1 v2)(fO:fE ai s bc b6)(hle:J.le ai)(ax:0<r.d)(he:0<s.d)(e:[Value.agg #[.bool x,v1,v2]]=[Value.agg #[.bool y,bc,b6]]):r.d=s.d:=by
 injection e with e
 injection e with e
 injection e with e
 injection e with _ e
 injection e with _ e
 injection e with e
 exact Q5 ax he (h.d.lu fO.d hle e)
theorem jR{a b c d:Value}(h:[a,b]=[c,d]):a=c/\b=d:=by
 injection h with U ab
 injection ab with ab
 exact⟨U,ab⟩
theorem yi{r s:cv}{v1 v2:Value}(h:r=s):dF r v1 v2=dF s v1 v2:=by rw[h]
theorem fE.cast{J:an}{r s:cv}{v1 v2:Value}(h:fE J r v1 v2)(e:r=s):fE J s v1 v2:=e▸h
section
variable {Q:eF Tryz.prog}{g0:Nat}{J:an}
theorem Is{r s:cv}{v1 v2 bc b6:Value}(ap:fE J r v1 v2)(ag:fE J s bc b6)(gR:r.fi)(cs:s.fi)(cJ:r.z.natAbs<=60000)(cW:r.d<=60000)(s1:s.z.natAbs<=60000)(s2:s.d<=60000):Fn (aS Q g0) 41 [dF r v1 v2,dF s bc b6] [] J (n2 J (a9 (r.z*s.d+s.z*r.d) (r.d*s.d))):=by
 obtain⟨bV,cV,bE,rfl,aQ,eu,gI⟩:=ap.n.bN;obtain⟨b7,dn,b8,rfl,aP,eX,gW⟩:=ap.d.bN;obtain⟨c5,ep,dj,rfl,bC,uc,sj⟩:=ag.n.bN;obtain⟨dM,fp,eg,rfl,dp,BB,sk⟩:=ag.d.bN;obtain⟨g,u,v,h,w,t,q,D⟩:=Pe gR cs;have rd:=gR.1;have gM:=cs.1;have QP:=D.g0;have QT:=D.a2;have Jc:=D.mY;have hU:=D.v2;have Rg:=D.b6;have QS:=D.b0;have Jd:=D.Zp;have Rf:=D.ig;have Je:=D.w0;have FC:(s.z*(u:Int)).natAbs=s.z.natAbs*u:=by rw[iC,iD]
 have Fv:(r.z*(v:Int)).natAbs=r.z.natAbs*v:=by rw[iC,iD]
 have nn:r.z.natAbs*v<=60000*60000:=rH cJ (ej hU s2);have jn:s.z.natAbs*u<=60000*60000:=rH s1 (ej Jc cW);have aG:=D.t1;have Uz:t.natAbs<=7200000000:=by rw[aG];exact ej (HJ _ _) (by rw[Fv,FC];exact ej (H4 nn jn) (by decide))
 have aS:r.z.natAbs<4294967296:=hn cJ (by decide);have wE:s.z.natAbs<4294967296:=hn s1 (by decide);have Lq:u<4294967296:=hn (ej Jc cW) (by decide);have dm:v<4294967296:=hn (ej hU s2) (by decide);have Vw:w<4294967296:=hn (ej Rg s2) (by decide);have a8:r.d<18446744073709551616:=hn cW (by decide);have a5:s.d<18446744073709551616:=hn s2 (by decide);have Vk:g<18446744073709551616:=hn (ej QS cW) (by decide);have Lp:t.natAbs<18446744073709551616:=hn Uz (by decide);have Vu:(r.z*(v:Int)).natAbs+(s.z*(u:Int)).natAbs<18446744073709551616:=by rw[Fv,FC];exact hn (H4 nn jn) (by decide)
 have zi:=hR QP;have zj:=hR QT;have Lr:=hR Jd;have Vv:=hR Rf;have Vx:=hR Je;have sv:=hR rd;have oC:=hR gM;have wk:ee 8 (dF r (.slice bV cV bE) (.slice b7 dn b8)) (dF r (.slice bV cV bE) (.slice b7 dn b8))=true:=by simp[ee,iU,aQ,aP,n3]
 have FL:ee 8 (dF s (.slice c5 ep dj) (.slice dM fp eg)) (dF s (.slice c5 ep dj) (.slice dM fp eg))=true:=by simp[ee,iU,bC,dp,n3]
 refine Fn.cH (cK Tryz.func41) rfl rfl fun H=>?_;refine rg ?_;refine fl fun bS=>?_;refine fl fun cE=>?_;refine' W.step rfl (.of (gN rfl rfl rfl (ly Q g0) rfl rfl rfl fun c4=>?_));refine bg ?_;refine I V.cN ?_;refine I V.cP ?_;refine I V.h2 ?_;refine I V.bk ?_;refine aJ ?_;refine If (fun iF=>?_) fun iF=>?_
 ·have qO:r.z=0:=by
   exact me.1 (eu.z (by omega))
  have k3:a9 (r.z*s.d+s.z*r.d) (r.d*s.d)=s:=by
   rw[qO,DP gR qO,u',C7,AB,show s.z*((1:Nat):Int)=s.z from HI _];exact Ck cs
  refine rg ?_;refine I V.fH ?_;refine fM ?_;refine aJ ?_;refine ad.ret ?_;refine'⟨.inr rfl,rfl,_,[],.cell rfl (by repeat first|exact .head _|refine .tail _ ?_|refine eU _ ?_) (gh (fs rfl) rfl) (.nil),b1 _,?_⟩;first
   |(rw[k3];first|exact⟨an.le.refl _,rfl,_,_,rfl,ag⟩|exact⟨an.le.refl _,rfl,_,_,rfl,ap⟩)
 ·have qO:r.z≠0:=fun k=>by have:=eu.sA (me.2 k);omega
  refine lf ?_;refine I V.cN ?_;refine I V.cP ?_;refine I V.h2 ?_;refine I V.bk ?_;refine aJ ?_;refine If (fun qo=>?_) fun qo=>?_
  ·have de:s.z=0:=by
    exact me.1 (uc.z (by omega))
   have k3:a9 (r.z*s.d+s.z*r.d) (r.d*s.d)=r:=by
    rw[de,DP cs de,u',Int.add_zero,iE,show r.z*((1:Nat):Int)=r.z from HI _];exact Ck gR
   refine rg ?_;refine I V.fH ?_;refine fM ?_;refine aJ ?_;refine ad.ret ?_;refine'⟨.inr rfl,rfl,_,[],.cell rfl (by repeat first|exact .head _|refine .tail _ ?_|refine eU _ ?_) (gh (fs rfl) rfl) (.nil),b1 _,?_⟩;first
    |(rw[k3];first|exact⟨an.le.refl _,rfl,_,_,rfl,ag⟩|exact⟨an.le.refl _,rfl,_,_,rfl,ap⟩)
  ·have de:s.z≠0:=fun k=>by have:=uc.sA (me.2 k);omega
   have V5:r.z*(v:Int)≠0:=HH qO (by omega);have Wb:s.z*(u:Int)≠0:=HH de (by omega);have QQ:(decide (r.z<0))=decide (r.z*(v:Int)<0):=by
    congr 1;apply propext
    constructor
    ·intro k;exact xm k (by omega)
    ·intro k
     rcases p8 r.z 0 with aa|aa
     ·exact aa
     ·have:=u7 aa (show(0:Int)<=v by omega);omega
   have QR:(decide (s.z<0))=decide (s.z*(u:Int)<0):=by
    congr 1;apply propext
    constructor
    ·intro k;exact xm k (by omega)
    ·intro k
     rcases p8 s.z 0 with aa|aa
     ·exact aa
     ·have:=u7 aa (show(0:Int)<=u by omega);omega
   refine fJ ?_;refine aM ?_;refine ad.draw rfl (by kernel_rfl) (a6:=[.val 0,.val 2,.bZ 1,.cq [2],.bZ 3,.bZ 4,.val 5]) (by kernel_rfl) ?_;refine bd rfl V.fH ?_;refine bd rfl V.fH ?_;refine bR.jP ?_;refine' bh.ea rfl rfl rfl rfl rfl rfl rfl rfl rfl dC (mm ap sv) ?_;rintro v' m' bO a' ⟨_,rfl,lV⟩;have oy:=lV;obtain⟨fF,hi,hb,rfl,gi,_,_⟩:=lV.bN;refine bh.cq eV ?_;refine' bh.ea rfl rfl rfl rfl rfl rfl rfl rfl rfl (cp (fun _ aK=>hS.ag a' (ap.x4 (ag.mono a') a' rd gM aK) rfl) dC) (mm (ag.mono a') oC) ?_;rintro v' m' eL bW ⟨_,rfl,so⟩;have mJ:=so;obtain⟨gp,ed,e1,rfl,iO,_,_⟩:=so.bN;refine' bh.ea rfl rfl rfl rfl rfl rfl rfl rfl rfl (cp (c0 rfl) (cp (c0 rfl) dC)) (CG (oy.mono bW) mJ a8 a5) ?_;rintro v' m' hG dc ⟨_,rfl,qT⟩;rw[D.b4] at qT;have lc:=qT;obtain⟨kG,nF,hJ,rfl,nJ,_,_⟩:=qT.bN;have sj:=((ap.mono a').mono bW).mono dc;have Fx:=((ag.mono a').mono bW).mono dc;refine bh.jO (fun x j=>jX (f:=fun x=>(x.f,x.ca)) j) ?_;refine bd rfl V.aI ?_;refine bR.nil ?_;refine aM ?_;refine ad.draw rfl (by kernel_rfl) (a6:=[.val 0,.val 2,.val 4,.val 6,.bZ 1,.cq [6,4,2],.bZ 3,.cq [6,4],.bZ 5,.cq [6],.bZ 7,.val 8,.val 9]) (by kernel_rfl) ?_;refine bd rfl V.fH ?_;refine bd rfl V.aT ?_;refine bd rfl V.fH ?_;refine bd rfl V.aT ?_;refine bR.jP ?_;refine' bh.ea rfl rfl rfl rfl rfl rfl rfl rfl rfl dC (mm sj sv) ?_;rintro v' m' kc dz ⟨_,rfl,qU⟩;have oz:=qU;obtain⟨lH,nG,jB,rfl,rb,_,_⟩:=qU.bN;refine bh.cq eV ?_;refine' bh.ea rfl rfl rfl rfl rfl rfl rfl rfl rfl (cp (c0 rfl) dC) (sP oz (lc.mono dz) zi a8) ?_;rintro v' m' nW eA ⟨_,rfl,wv⟩;rw[D.jS] at wv;have ny:=wv;obtain⟨m9,Cb,gQ,rfl,sO,_,_⟩:=wv.bN
   refine bh.cq eV ?_;refine' bh.ea rfl rfl rfl rfl rfl rfl rfl rfl rfl (cp (c0 rfl) (cp (fun _ aK=>hS.ag (dz.trans eA) (sj.x4 ((Fx.mono dz).mono eA) (dz.trans eA) rd gM aK) rfl) dC)) (mm ((Fx.mono dz).mono eA) oC) ?_;rintro v' m' xp fB ⟨_,rfl,y7⟩;have y4:=y7;obtain⟨qk,sB,dP,rfl,sN,_,_⟩:=y7.bN;refine bh.cq eV ?_;refine' bh.ea rfl rfl rfl rfl rfl rfl rfl rfl rfl (cp (c0 rfl) (cp (fun _ aK=>hS.ag (eA.trans fB) (ak (·/ g) (oz.lu y4 (eA.trans fB) (jR aK).1)) rfl) (cp (c0 rfl) dC))) (sP y4 (((lc.mono dz).mono eA).mono fB) zi a5) ?_;rintro v' m' s5 g3 ⟨_,rfl,wo⟩;rw[D.v1] at wo;have ui:=wo;obtain⟨Pv,V6,qm,rfl,XM,_,_⟩:=wo.bN;have ny:=(ny.mono fB).mono g3;have lc:=(((lc.mono dz).mono eA).mono fB).mono g3;have yW:=(((sj.mono dz).mono eA).mono fB).mono g3;have wg:=(((Fx.mono dz).mono eA).mono fB).mono g3;refine bh.jO (fun x j=>jX (f:=fun x=>(x.f,x.ca)) j) ?_;refine fX ?_;refine bR.nil ?_;refine aM ?_;refine ad.draw rfl (by kernel_rfl) (a6:=[.val 0,.val 1,.val 2,.val 3,.val 4,.val 6,.val 7,.val 8,.val 9,.val 10,.bZ 5,.cq [10,9,8,7,6,1,0],.bZ 11,.cq [7,6,1,0],.bZ 12,.val 13,.val 14,.val 15,.val 16,.val 17]) (by kernel_rfl) ?_;refine bd rfl V.cN ?_;refine bd rfl V.cP ?_;refine bd rfl V.cN ?_;refine bd rfl V.cP ?_;refine fX ?_;refine bd rfl V.cP ?_;refine bd rfl V.cN ?_;refine bd rfl V.cP ?_;refine bd rfl V.aT ?_;refine bR.jP ?_;refine' bh.ea rfl rfl rfl rfl rfl rfl rfl rfl rfl dC (uR yW.n ui (u9.2 qO) Vv aS dm) ?_;rintro v' m' HM fY ⟨_,rfl,y8⟩;have BP:=y8;obtain⟨Pw,zu,kI,rfl,XN,_,_⟩:=y8.bN;refine bh.cq eV ?_
   refine' bh.ea rfl rfl rfl rfl rfl rfl rfl rfl rfl (cp (fun _ aK=>hS.ag fY (by rw[yW.n.lu (wg.mono fY).n fY (jR aK).1,ui.lu (ny.mono fY) fY (jR aK).2]) rfl) dC) (uR (wg.mono fY).n (ny.mono fY) (u9.2 de) Lr wE Lq) ?_;rintro v' m' s6 hL ⟨_,rfl,y9⟩;have BQ:=y9;obtain⟨Px,V7,PL,rfl,XO,_,_⟩:=y9.bN;refine bh.cq eV ?_;refine' bh.ea rfl rfl rfl rfl rfl rfl rfl rfl rfl (cp (c0 rfl) (cp (c0 rfl) dC)) (Yq (dw:=r.z*v) (dZ:=s.z*u) QQ QR (by rw[Fv];exact BP.mono hL) (by rw[FC];exact BQ) V5 Wb Vu) ?_;rintro v' m' C8 jo ⟨_,rfl,aa2,acY,rfl,wq,K0⟩;rw[<-aG] at wq K0;have wm:=wq;obtain⟨Py,V8,iF,rfl,XP,KD,_⟩:=wq.bN;have lc:=((lc.mono fY).mono hL).mono jo;have ny:=((ny.mono fY).mono hL).mono jo;have Up:=((wg.mono fY).mono hL).mono jo;refine bh.jO (fun x j=>jX (f:=fun x=>(x.f,x.ca)) j) ?_;refine fX ?_;refine bR.nil ?_;refine rg ?_;refine aH ?_;refine I V.bk ?_;refine aJ ?_;refine If (fun DH=>?_) fun DH=>?_
   ·have BN:t=0:=by
     exact me.1 (KD.z (by omega))
    have k3:a9 (r.z*s.d+s.z*r.d) (r.d*s.d)=⟨0,1⟩:=by rw[D.je BN];exact pN (gm rd gM)
    refine rg ?_;refine I V.kH ?_;refine fM ?_;refine aJ ?_;refine ad.ret ?_;refine'⟨.inr rfl,rfl,_,[],.cell rfl (by repeat first|exact .head _|refine .tail _ ?_|refine eU _ ?_) (gh (fs rfl) rfl) (.nil),b1 _,?_⟩;first
     |(have c:=DH
       first
           |(rw[k3];exact⟨((((((((a'.trans bW).trans dc).trans dz).trans eA).trans fB).trans g3).trans fY).trans hL).trans jo,rfl,.slice none 0 0,.slice none 0 0,rfl,cn.nil,cn.nil⟩)
           |exact⟨((((((((((((((a'.trans bW).trans dc).trans dz).trans eA).trans fB).trans g3).trans fY).trans hL).trans jo).trans lR).trans k').trans px).trans Bw).trans E6).trans Kx,rfl,_,_,yi D.rc,da.cast D.rc⟩)
     |(rw[k3];first|exact⟨an.le.refl _,rfl,_,_,rfl,ag⟩|exact⟨an.le.refl _,rfl,_,_,rfl,ap⟩)
   ·have BN:t≠0:=fun k=>by have:=KD.sA (me.2 k);omega
    refine lf ?_;refine aH ?_;refine cm (G:=CG wm lc Lp Vk) (h:=?_);rintro v' m' OG lR ⟨_,rfl,wu⟩;rw[D.U] at wu;have y5:=wu;obtain⟨Pz,V9,fW,rfl,XQ,_,_⟩:=wu.bN;have Uq:=Up.mono lR;refine I V.aI ?_;refine aJ ?_;refine ad.draw rfl (by kernel_rfl) (a6:=[.val 0,.val 1,.val 2,.val 4,.val 5,.val 7,.bZ 3,.cq [7,5,4,0],.bZ 6,.cq [7,4,0],.bZ 8,.cq [4,0],.bZ 9,.cq [0],.bZ 10,.bZ 11]) (by kernel_rfl) ?_;refine fX ?_;refine bd rfl V.fH ?_;refine bd rfl V.aT ?_;refine bR.jP ?_;refine' bh.ea rfl rfl rfl rfl rfl rfl rfl rfl rfl dC (sP (wm.mono lR) y5 zj Lp) ?_;rintro v' m' OH k' ⟨_,rfl,y'⟩;have BR:=y';obtain⟨PA,V',mn,rfl,XR,_,_⟩:=y'.bN;refine bh.cq eV ?_;refine' bh.ea rfl rfl rfl rfl rfl rfl rfl rfl rfl (cp (c0 rfl) dC) (mm (Uq.mono k') oC) ?_;rintro v' m' OI px ⟨_,rfl,K8⟩;have K5:=K8;obtain⟨IK,LZ,qn,rfl,MG,_,_⟩:=K8.bN;refine bh.cq eV ?_;refine' bh.ea rfl rfl rfl rfl rfl rfl rfl rfl rfl (cp (c0 rfl) (cp (fun _ aK=>hS.ag (k'.trans px) (ak (·/ h) ((wm.mono lR).lu K5 (k'.trans px) (jR aK).1)) rfl) dC)) (sP K5 ((y5.mono k').mono px) zj a5) ?_;rintro v' m' aaz Bw ⟨_,rfl,FN⟩;rw[D.bc] at FN;have UO:=FN;obtain⟨IL,wK,jh,rfl,MH,_,_⟩:=FN.bN;refine bh.cq eV ?_;refine' bh.ea rfl rfl rfl rfl rfl rfl rfl rfl rfl (cp (c0 rfl) (cp (c0 rfl) (cp (c0 rfl) dC))) (uR ((((ny.mono lR).mono k').mono px).mono Bw) UO Lr Vx Lq Vw) ?_;rintro v' m' aaA E6 ⟨_,rfl,K9⟩;have y6:=K9;obtain⟨PB,Wa,qo,rfl,XS,_,_⟩:=K9.bN;refine bh.cq eV ?_;refine' bh.ea rfl rfl rfl rfl rfl rfl rfl rfl rfl (cp (c0 rfl) (cp (c0 rfl) (cp (c0 rfl) (cp (c0 rfl) dC)))) (B8 (r:=⟨q,u*w⟩) (by rw[D.aQ] at BR;exact((BR.mono px).mono Bw).mono E6) y6 (fun _=>by rw[K0 BN];exact mo.2 D.aP) (fun k=>absurd (D.bC.2 k) BN) (hR (gm Jd Je))) ?_
    rintro v' m' aaB Kx ⟨_,rfl,fa,fh,rfl,cg⟩;have da:=cg;obtain⟨PC,Wc,kk,rfl,XT,_,_⟩:=cg.n.bN;obtain⟨aaZ,wL,qp,rfl,acC,_,_⟩:=cg.d.bN;refine bh.jO (fun x j=>jX (f:=fun x=>(x.f,x.ca)) j) ?_;refine oZ rfl ?_;refine bR.nil ?_;refine aM ?_;refine ad.ret ?_;refine'⟨.inr rfl,rfl,_,[],.cell rfl (by repeat first|exact .head _|refine .tail _ ?_|refine eU _ ?_) (gh (fs rfl) rfl) (.nil),b1 _,?_⟩;first
     |(have c:=DH
       first
           |(rw[k3];exact⟨((((((((a'.trans bW).trans dc).trans dz).trans eA).trans fB).trans g3).trans fY).trans hL).trans jo,rfl,.slice none 0 0,.slice none 0 0,rfl,cn.nil,cn.nil⟩)
           |exact⟨((((((((((((((a'.trans bW).trans dc).trans dz).trans eA).trans fB).trans g3).trans fY).trans hL).trans jo).trans lR).trans k').trans px).trans Bw).trans E6).trans Kx,rfl,_,_,yi D.rc,da.cast D.rc⟩)
     |(rw[k3];first|exact⟨an.le.refl _,rfl,_,_,rfl,ag⟩|exact⟨an.le.refl _,rfl,_,_,rfl,ap⟩)
end
end
end Go.Opn

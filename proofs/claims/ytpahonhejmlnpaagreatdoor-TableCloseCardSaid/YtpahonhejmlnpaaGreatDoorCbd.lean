/- A part of the proof of TableClose. -/
import Derived.Test.YtpahonhejmlnpaaGreatDoorCbc
import Derived.Test.YtpahonhejmlnpaaGreatDoorCar
set_option maxRecDepth 100000
set_option maxHeartbeats 8000000
set_option linter.unusedVariables false
set_option linter.unusedSimpArgs false
namespace Go.Opn
noncomputable section
open Go.Cre Go.RowKit Go.Proofs
def ij(d:Nat):Nat:=if d=1 then 0 else d
structure e5 (J:an) (r:cH) (v1 v2:Value):Prop where
 n:cA J v1 r.z.natAbs
 d:cA J v2 (ij r.d)
theorem e5.mono{J ae:an}(hle:J.le ae){r:cH}{v1 v2:Value}(h:e5 J r v1 v2):e5 ae r v1 v2:=⟨h.n.mono hle,h.d.mono hle⟩
abbrev o1(r:cH)(v1 v2:Value):List Value:=[.bool (decide (r.z<0)),v1,v2]
abbrev cO(r:cH)(v1 v2:Value):Value:=.agg #[.bool (decide (r.z<0)),v1,v2]
abbrev nX(J:an)(r:cH):Value->aU->an->Prop:=fun u m' ae=>J.le ae/\m'=[]/\∃v1 v2,u=cO r v1 v2/\e5 ae r v1 v2
theorem Gh{r:cH}(h:r.fP)(a0:r.z=0):r.d=1:=by
 have:=h.2;rw[a0] at this;exact(Nat.gcd_zero_left r.d).symm.trans this
section
variable {Q:ek Tryz.prog}{g0:Nat}{J:an}
theorem Bb{r:cH}{v w:Value}{neg:Bool}(aa:cA J v r.z.natAbs)(ab:cA J w r.d)(aw:r.z≠0->neg=decide (r.z<0))(a0:r.z=0->r.d=1)(au:r.d≠0):Fn (aO Q g0) 84 [.bool neg,v,w] [] J (nX J r):=by
 have g3:=aa;have hb:=ab;obtain⟨br,bI,bn,rfl,aR,eb,gK⟩:=aa.un;obtain⟨bN,cY,bQ,rfl,aN,e',gT⟩:=ab.un;refine Fn.ck (ch Tryz.func84) rfl rfl fun H=>?_;refine rg ?_;refine' W.step rfl (.of (eS rfl rfl rfl (k5 Q g0) rfl rfl rfl fun dY=>?_));refine bb ?_;refine aH ?_;refine I V.a' ?_;refine aD ?_;refine If (fun e7=>?_) fun e7=>?_
 ·refine rg ?_;refine I V.jx ?_;refine eG ?_;refine aD ?_;refine ad.ret ?_;refine'⟨.inr rfl,rfl,_,[],.cell rfl (by repeat first|exact .head _|refine .tail _ ?_|refine d' _ ?_) (fb (dw rfl) rfl) (.nil),bZ _,?_⟩;first
   |(have fe:r.z=0:=by
         rcases eb with h|h
         ·exact mo.1 h.1
         ·omega
     exact⟨an.le.refl _,rfl,.slice none 0 0,.slice none 0 0,by rw[show cO r (.slice none 0 0) (.slice none 0 0)=.agg #[.bool (decide (r.z<0)),.slice none 0 0,.slice none 0 0] from rfl,fe];rfl,by rw[fe];exact cA.nil,by unfold ij;rw[bg (a0 fe)];exact cA.nil⟩)
 ·refine aG ?_;refine ad.skip ?_;refine rg ?_;refine I V.aJ ?_;refine b4 (G:=yo hb) (h:=?_);rintro v' m' ae hle ⟨rfl,rfl,rfl⟩;refine aD ?_;refine If (fun jb=>?_) fun jb=>?_
  ·refine rg ?_;refine I V.aI ?_;refine bb ?_;refine aH ?_;refine eG ?_;refine aD ?_;refine ad.ret ?_;refine'⟨.inr rfl,rfl,_,[],.cell rfl (by repeat first|exact .head _|refine .tail _ ?_|refine d' _ ?_) (fb (dw rfl) rfl) (.nil),bZ _,?_⟩;first
    |(have c:=jb
      have fe:r.z≠0:=fun q=>e7 (by rw[q] at eb;have:bI=0:=by rcases eb with h|h<;>simp at h<;>omega
                                   omega)
      first
          |exact⟨an.le.refl _,rfl,_,_,by rw[aw fe];rfl,g3,by unfold ij;rw[bg c];exact cA.nil⟩
          |exact⟨an.le.refl _,rfl,_,_,by rw[aw fe];rfl,g3,by unfold ij;rw[a3 c];exact hb⟩)
    |(have fe:r.z=0:=by
          rcases eb with h|h
          ·exact mo.1 h.1
          ·omega
      exact⟨an.le.refl _,rfl,.slice none 0 0,.slice none 0 0,by rw[show cO r (.slice none 0 0) (.slice none 0 0)=.agg #[.bool (decide (r.z<0)),.slice none 0 0,.slice none 0 0] from rfl,fe];rfl,by rw[fe];exact cA.nil,by unfold ij;rw[bg (a0 fe)];exact cA.nil⟩)
  ·refine aG ?_;refine ad.skip ?_;refine rg ?_;refine aH ?_;refine eG ?_;refine aD ?_;refine ad.ret ?_;refine'⟨.inr rfl,rfl,_,[],.cell rfl (by repeat first|exact .head _|refine .tail _ ?_|refine d' _ ?_) (fb (dw rfl) rfl) (.nil),bZ _,?_⟩;first
    |(have c:=jb
      have fe:r.z≠0:=fun q=>e7 (by rw[q] at eb;have:bI=0:=by rcases eb with h|h<;>simp at h<;>omega
                                   omega)
      first
          |exact⟨an.le.refl _,rfl,_,_,by rw[aw fe];rfl,g3,by unfold ij;rw[bg c];exact cA.nil⟩
          |exact⟨an.le.refl _,rfl,_,_,by rw[aw fe];rfl,g3,by unfold ij;rw[a3 c];exact hb⟩)
    |(have fe:r.z=0:=by
          rcases eb with h|h
          ·exact mo.1 h.1
          ·omega
      exact⟨an.le.refl _,rfl,.slice none 0 0,.slice none 0 0,by rw[show cO r (.slice none 0 0) (.slice none 0 0)=.agg #[.bool (decide (r.z<0)),.slice none 0 0,.slice none 0 0] from rfl,fe];rfl,by rw[fe];exact cA.nil,by unfold ij;rw[bg (a0 fe)];exact cA.nil⟩)
theorem my{r:cH}{v1 v2:Value}{neg:Bool}(h:e5 J r v1 v2)(au:r.d≠0):Fn (aO Q g0) 81 [.agg #[.bool neg,v1,v2]] [] J (iK J r.d):=by
 have hb:=h.d;obtain⟨br,bI,bn,rfl,aR,eb,gK⟩:=h.n.un;obtain⟨bN,cY,bQ,rfl,aN,e',gT⟩:=h.d.un;refine Fn.ck (ch Tryz.func81) rfl rfl fun H=>?_;refine rg ?_;refine fc fun bx=>?_;refine I V.aI ?_;refine bb ?_;refine I V.cF ?_;refine I V.cP ?_;refine I V.gL ?_;refine I V.a' ?_;refine aD ?_;refine If (fun dU=>?_) fun dU=>?_
 ·refine rg ?_;refine ja (kZ Q g0) fun fI=>?_;refine I V.aI ?_;refine bR ?_;refine ad.iW rfl fun bO=>?_;refine aG ?_;refine ad.ret ?_;refine'⟨.inr rfl,rfl,_,[],.tmp rfl .nil,bZ _,?_⟩;first
   |(have c:=dU
     first
         |exact⟨bO,rfl,by
             have e:r.d=1:=by
              rcases e' with⟨p,_⟩|⟨_,p⟩
              ·unfold ij at p;split at p<;>omega
              ·omega
             rw[e];exact cA.row (n:=1) (l:=[1]) rfl (by simp) (by simp) (by decide) (an.hH _ _ _)⟩
         |exact⟨an.le.refl _,rfl,by
             have e:ij r.d=r.d:=by
              rcases e' with⟨_,p⟩|⟨p,_⟩
              ·omega
              ·unfold ij at*;split at p
               ·exact absurd rfl p
               ·rename_i q;rw[a3 q]
             rw[e] at hb;exact hb⟩)
 ·refine aG ?_;refine ad.skip ?_;refine rg ?_;refine I V.cF ?_;refine I V.cP ?_;refine I V.aI ?_;refine aD ?_;refine ad.ret ?_;refine'⟨.inr rfl,rfl,_,[],.tmp rfl .nil,bZ _,?_⟩;first
   |(have c:=dU
     first
         |exact⟨bO,rfl,by
             have e:r.d=1:=by
              rcases e' with⟨p,_⟩|⟨_,p⟩
              ·unfold ij at p;split at p<;>omega
              ·omega
             rw[e];exact cA.row (n:=1) (l:=[1]) rfl (by simp) (by simp) (by decide) (an.hH _ _ _)⟩
         |exact⟨an.le.refl _,rfl,by
             have e:ij r.d=r.d:=by
              rcases e' with⟨_,p⟩|⟨p,_⟩
              ·omega
              ·unfold ij at*;split at p
               ·exact absurd rfl p
               ·rename_i q;rw[a3 q]
             rw[e] at hb;exact hb⟩)
theorem aay{r:cH}{v1 v2:Value}(h:e5 J r v1 v2):Fn (aO Q g0) 103 [cO r v1 v2] [] J (fun u m' ae=>u=cO ⟨-r.z,r.d⟩ v1 v2/\m'=[]/\J=ae):=by
 obtain⟨br,bI,bn,rfl,aR,eb,gK⟩:=h.n.un;obtain⟨bN,cY,bQ,rfl,aN,e',gT⟩:=h.d.un;refine Fn.ck (ch Tryz.func103) rfl rfl fun H=>?_;refine rg ?_;refine fc fun bx=>?_;refine' W.step rfl (.of (eS rfl rfl rfl (k5 Q g0) rfl rfl rfl fun bX=>?_));refine bb ?_;refine I V.cF ?_;refine I V.cP ?_;refine I V.nG ?_;refine I V.aJ ?_;refine gz 6 (fun j'=>?_) fun j'=>?_
 ·refine bM V.cF ?_;refine bM V.cP ?_;refine bM V.gL ?_;refine bM V.a' ?_;refine I V.bo ?_;refine I V.cF ?_;refine I V.cP ?_;refine I V.cF ?_;refine I V.cP ?_;refine I V.jx ?_;refine eG ?_;refine aD ?_;refine ad.ret ?_;refine'⟨.inr rfl,rfl,_,[],.cell rfl (by repeat first|exact .head _|refine .tail _ ?_|refine d' _ ?_) (fb (dw rfl) rfl) (.nil),bZ _,?_⟩;first
   |(have c:=j'
     refine⟨?_,rfl,rfl⟩;show Value.agg #[.bool _,_,_]=Value.agg #[.bool _,_,_];congr 4
     first
         |(by_cases q:0<r.z
           ·rw[g2 (show -r.z<0 by omega)];try (first|(simp;done)|(simp;omega))
           ·rw[e8 (show ¬-r.z<0 by omega)];try (first|(simp;done)|(simp;simp at c;omega))))
 ·refine c7 ?_;refine c7 ?_;refine c7 ?_;refine c7 ?_;refine I V.bo ?_;refine I V.cF ?_;refine I V.cP ?_;refine I V.cF ?_;refine I V.cP ?_;refine I V.jx ?_;refine eG ?_;refine aD ?_;refine ad.ret ?_;refine'⟨.inr rfl,rfl,_,[],.cell rfl (by repeat first|exact .head _|refine .tail _ ?_|refine d' _ ?_) (fb (dw rfl) rfl) (.nil),bZ _,?_⟩;first
   |(have c:=j'
     refine⟨?_,rfl,rfl⟩;show Value.agg #[.bool _,_,_]=Value.agg #[.bool _,_,_];congr 4
     first
         |(by_cases q:0<r.z
           ·rw[g2 (show -r.z<0 by omega)];try (first|(simp;done)|(simp;omega))
           ·rw[e8 (show ¬-r.z<0 by omega)];try (first|(simp;done)|(simp;simp at c;omega))))
theorem S8{r:cH}{v1 v2:Value}(h:e5 J r v1 v2):Fn (aO Q g0) 69 [cO r v1 v2] [] J (fun u m' ae=>u=cO ⟨(r.z.natAbs:Int),r.d⟩ v1 v2/\m'=[]/\J=ae):=by
 obtain⟨br,bI,bn,rfl,aR,eb,gK⟩:=h.n.un;obtain⟨bN,cY,bQ,rfl,aN,e',gT⟩:=h.d.un;refine Fn.ck (ch Tryz.func69) rfl rfl fun H=>?_;refine rg ?_;refine fc fun bx=>?_;refine' W.step rfl (.of (eS rfl rfl rfl (k5 Q g0) rfl rfl rfl fun bX=>?_));refine bb ?_;refine I V.cF ?_;refine I V.cP ?_;refine I V.cF ?_;refine I V.cP ?_;refine I V.jx ?_;refine eG ?_;refine aD ?_;refine ad.ret ?_;refine'⟨.inr rfl,rfl,_,[],.cell rfl (by repeat first|exact .head _|refine .tail _ ?_|refine d' _ ?_) (fb (dw rfl) rfl) (.nil),bZ _,⟨by rw[show cO (⟨(r.z.natAbs:Int),r.d⟩:cH) (.slice br bI bn) (.slice bN cY bQ)=.agg #[.bool (decide ((r.z.natAbs:Int)<0)),.slice br bI bn,.slice bN cY bQ] from rfl,e8 (show ¬((r.z.natAbs:Int)<0) by omega)];rfl,rfl,rfl⟩⟩
theorem ac6{dE ej:Int}{Pz PA:Bool}{v w:Value}(aC:Pz=decide (dE<0))(aZ:PA=decide (ej<0))(aa:cA J v dE.natAbs)(ab:cA J w ej.natAbs)(gN:dE≠0)(qJ:ej≠0)(ah:dE.natAbs+ej.natAbs<18446744073709551616):Fn (aO Q g0) 102 [.bool Pz,v,.bool PA,w] [] J (fun u m' ae=>J.le ae/\m'=[]/\∃b w,u=.tuple #[.bool b,w]/\cA ae w (dE+ej).natAbs/\(dE+ej≠0->b=decide (dE+ej<0))):=by
 subst aC;subst aZ;have g3:=aa;have hb:=ab;obtain⟨br,bI,bn,rfl,aR,eb,gK⟩:=aa.un;obtain⟨bN,cY,bQ,rfl,aN,e',gT⟩:=ab.un;refine Fn.ck (ch Tryz.func102) rfl rfl fun H=>?_;refine rg ?_;refine aH ?_;refine bR ?_;refine mj [0,1,2,3] ?_;refine aG ?_;refine' ad.oU 0 [(12,.bool (decide (((dE<0)↔(ej<0)))))] ?vl ?vq;case vl=>
  refine ad.region ?_;refine aH ?_;refine' W.step rfl (Exec.val rfl rfl (uO rfl rfl rfl (.inl ⟨rfl,rfl⟩) (by kernel_rfl)) ?_);refine bR ?_;refine'⟨⟨_,rfl,⟨?Bi,rfl,rfl,rfl,rfl,trivial⟩⟩,cd _,rfl⟩;case Bi=>first|exact rc rfl (by first|omega|(by_cases a:dE<0<;>by_cases b:ej<0<;>simp[a,b]))|exact ra rfl (by first|omega|(by_cases a:dE<0<;>by_cases b:ej<0<;>simp[a,b]))|exact rb rfl (by first|omega|(by_cases a:dE<0<;>by_cases b:ej<0<;>simp[a,b]))|exact q' rfl (by first|omega|(by_cases a:dE<0<;>by_cases b:ej<0<;>simp[a,b]))
 case vq=>
  refine aG ?_;refine If (fun jb=>?_) fun jb=>?_
  ·refine rg ?_;refine aH ?_;refine b4 (G:=ab4 g3 hb (by omega) (by omega) ah) (h:=?_);rintro v' m' bq a8 ⟨_,rfl,hw⟩;have qc:=hw;obtain⟨cW,ee,cZ,rfl,bG,_,_⟩:=hw.un;refine aH ?_;refine aD ?_;refine ad.ret ?_;refine'⟨.inr rfl,rfl,_,[],.tmp rfl (.tmp rfl .nil),bZ _,?_⟩;refine⟨a8,rfl,_,_,rfl,?_,fun aX=>?_⟩
   ·first
        |(rw[show(dE+ej).natAbs=dE.natAbs+ej.natAbs by omega];exact qc)
        |(rw[show(dE+ej).natAbs=ej.natAbs -dE.natAbs by omega];exact qc)
        |(rw[show(dE+ej).natAbs=dE.natAbs -ej.natAbs by omega];exact qc)
   ·first
        |(by_cases a:dE<0
          ·rw[g2 a,g2 (by omega)]
          ·rw[e8 a,e8 (by omega)])
        |(by_cases a:ej<0
          ·rw[g2 a,g2 (by omega)]
          ·rw[e8 a,e8 (by omega)])
  ·refine aG ?_;refine ad.skip ?_;refine rg ?_;refine aH ?_;refine b4 (G:=zJ g3 hb) (h:=?_);rintro v' m' ae hle ⟨rfl,rfl,rfl⟩;refine I V.a' ?_;refine aD ?_;refine If (fun la=>?_) fun la=>?_
   ·have cD:=tI.1 la;refine rg ?_;refine aH ?_;refine b4 (G:=Pr hb g3 (by omega) (by omega) (by omega) (by omega)) (h:=?_);rintro v' m' bq a8 ⟨_,rfl,hw⟩;have qc:=hw;obtain⟨cW,ee,cZ,rfl,bG,_,_⟩:=hw.un;refine aH ?_;refine aD ?_;refine ad.ret ?_;refine'⟨.inr rfl,rfl,_,[],.tmp rfl (.tmp rfl .nil),bZ _,?_⟩;refine⟨a8,rfl,_,_,rfl,?_,fun aX=>?_⟩
    ·first
      |(rw[show(dE+ej).natAbs=dE.natAbs+ej.natAbs by omega];exact qc)
      |(rw[show(dE+ej).natAbs=ej.natAbs -dE.natAbs by omega];exact qc)
      |(rw[show(dE+ej).natAbs=dE.natAbs -ej.natAbs by omega];exact qc)
    ·first
      |(by_cases a:dE<0
        ·rw[g2 a,g2 (by omega)]
        ·rw[e8 a,e8 (by omega)])
      |(by_cases a:ej<0
        ·rw[g2 a,g2 (by omega)]
        ·rw[e8 a,e8 (by omega)])
   ·have iR:=Nat.le_of_not_lt fun h=>la (tI.2 h);refine l8 ?_;refine aH ?_;refine b4 (G:=Pr g3 hb (by omega) (by omega) iR (by omega)) (h:=?_);rintro v' m' bq a8 ⟨_,rfl,hw⟩;have qc:=hw;obtain⟨cW,ee,cZ,rfl,bG,_,_⟩:=hw.un;refine aH ?_;refine aD ?_;refine ad.ret ?_;refine'⟨.inr rfl,rfl,_,[],.tmp rfl (.tmp rfl .nil),bZ _,?_⟩;refine⟨a8,rfl,_,_,rfl,?_,fun aX=>?_⟩
    ·first
      |(rw[show(dE+ej).natAbs=dE.natAbs+ej.natAbs by omega];exact qc)
      |(rw[show(dE+ej).natAbs=ej.natAbs -dE.natAbs by omega];exact qc)
      |(rw[show(dE+ej).natAbs=dE.natAbs -ej.natAbs by omega];exact qc)
    ·first
      |(by_cases a:dE<0
        ·rw[g2 a,g2 (by omega)]
        ·rw[e8 a,e8 (by omega)])
      |(by_cases a:ej<0
        ·rw[g2 a,g2 (by omega)]
        ·rw[e8 a,e8 (by omega)])
end
end
end Go.Opn
namespace Go.Opn
noncomputable section
theorem I1{z:Int}{h:Nat}(ao:0<h)(au:h ∣ z.natAbs):∃q:Int,z=q*h/\z.natAbs / h=q.natAbs/\(z<0↔q<0)/\(z=0↔q=0):=by
 obtain⟨q,cc⟩:=Fe.2 au;have e:z=q*h:=by rw[cc,lv]
 have ar:(0:Int)<h:=by omega
 refine⟨q,e,?_,?_,?_⟩
 ·rw[e,jo,g8,qX _ ao]
 ·rw[e];constructor
  ·intro k;rcases r7 q 0 with j|j
   ·exact j
   ·have:=w1 j (Ce ar);omega
  ·intro k;exact wZ k ar
 ·rw[e];constructor
  ·intro k;rcases Int.mul_eq_zero.1 k with j|j
   ·exact j
   ·omega
  ·intro k;rw[k,uW]
theorem zO{n g:Nat}(ao:0<g)(aw:0<n)(au:g ∣ n):∃u,n / g=u/\n=u*g/\0<u/\u<=n:=by
 obtain⟨u,hu⟩:=au;have rH:n=u*g:=by rw[hu,j4]
 have aX:0<u:=by
  rcases ly u with k|k
  ·rw[k,nV] at rH;omega
  ·exact k
 exact⟨u,by rw[rH,qX _ ao],rH,aX,by rw[rH];exact Nat.le_mul_of_pos_right _ ao⟩
structure R8 (r s:cH) (g u v h w:Nat) (t q:Int):Prop where
 g0:0<g
 cm:Nat.gcd r.d s.d=g
 jl:r.d / g=u
 v1:s.d / g=v
 aec:0<u
 jm:0<v
 jJ:u<=r.d
 v2:v<=s.d
 t1:t=r.z*v+s.z*u
 aX:0<h
 aa:Nat.gcd t.natAbs g=h
 aR:t.natAbs / h=q.natAbs
 aN:t<0↔q<0
 bG:t=0↔q=0
 bh:s.d / h=w
 w0:0<w
 cb:w<=s.d
 cn:g<=r.d
 kn:t=0->r.z*s.d+s.z*r.d=0
 m4:(⟨q,u*w⟩:cH)=aV (r.z*s.d+s.z*r.d) (r.d*s.d)
theorem S'{r s:cH}(al:r.fP)(af:s.fP):∃g u v h w t q,R8 r s g u v h w t q:=by
 have rd:=al.1;have gM:=af.1;have aq:0<Nat.gcd r.d s.d:=SN _ rd;obtain⟨u,aC,aZ,cJ,eo⟩:=zO aq rd (oM _ _);obtain⟨v,f1,f2,f3,f4⟩:=zO aq gM (qW _ _);have cS:0<Nat.gcd (r.z*v+s.z*u).natAbs (Nat.gcd r.d s.d):=sd _ aq;obtain⟨q,aR,aN,bG,dd⟩:=I1 cS (oM _ _);obtain⟨w,bh,cb,dD,lS⟩:=zO cS gM (Fu (qW _ _) (qW _ _));refine⟨_,u,v,_,w,_,q,aq,rfl,aC,f1,cJ,f3,eo,f4,rfl,cS,rfl,aN,bG,dd,bh,dD,lS,Nat.le_of_dvd rd (oM _ _),fun aX=>?_,ZH al af rfl aZ f2 rfl rfl aR cb⟩;have:(r.z*v+s.z*u)*(Nat.gcd r.d s.d:Nat)=r.z*s.d+s.z*r.d:=by
  have a9:(s.d:Int)=v*(Nat.gcd r.d s.d:Nat):=by rw[<-gZ,<-f2]
  have a4:(r.d:Int)=u*(Nat.gcd r.d s.d:Nat):=by rw[<-gZ,<-aZ]
  rw[Cd];conv=>rhs;rw[a9,a4]
  rw[j2,j2]
 rw[<-this,aX,uW]
structure SH (r s:cH) (g h b e:Nat) (p q:Int):Prop where
 g0:0<g
 cm:Nat.gcd r.z.natAbs s.d=g
 aX:0<h
 aa:Nat.gcd s.z.natAbs r.d=h
 dm:r.z.natAbs / g=p.natAbs
 hA:r.z<0↔p<0
 aR:s.z.natAbs / h=q.natAbs
 aN:s.z<0↔q<0
 lm:p≠0
 bG:q≠0
 br:r.d / h=b
 LY:0<b
 bN:b<=r.d
 aC:s.d / g=e
 ku:0<e
 aZ:e<=s.d
 uD:p.natAbs<=r.z.natAbs
 dd:q.natAbs<=s.z.natAbs
 m4:(⟨p*q,b*e⟩:cH)=aV (r.z*s.z) (r.d*s.d)
theorem aal{r s:cH}(al:r.fP)(af:s.fP)(qD:r.z≠0)(sz:s.z≠0):∃g h b e p q,SH r s g h b e p q:=by
 have rd:=al.1;have gM:=af.1;have aq:0<Nat.gcd r.z.natAbs s.d:=sd _ gM;have cS:0<Nat.gcd s.z.natAbs r.d:=sd _ rd;obtain⟨p,dm,hA,lm,uD⟩:=I1 aq (oM _ _);obtain⟨q,aR,aN,bG,dd⟩:=I1 cS (oM _ _);obtain⟨b,br,bN,cW,dj⟩:=zO cS rd (qW _ _);obtain⟨e,aC,aZ,cJ,eo⟩:=zO aq gM (qW _ _);refine⟨_,_,b,e,p,q,aq,rfl,cS,rfl,hA,lm,aN,bG,fun k=>qD (uD.2 k),fun k=>sz (dd.2 k),br,cW,dj,aC,cJ,eo,by rw[<-hA];exact sc _ _,by rw[<-aN];exact sc _ _,?_⟩;exact ZI (a:=0) (c:=0) al af rfl rfl qD sz dm aR bN aZ
theorem I7{X Y:Int}{d e:Nat}(au:0<d)(he:0<e):aV ((aV X d).z*(aV Y e).d+(aV Y e).z*(aV X d).d) ((aV X d).d*(aV Y e).d)=aV (X*e+Y*d) (d*e):=by
 have bn:=(h8 (z:=X) au).1;have bQ:=(h8 (z:=Y) he).1;have aa:=qo (z:=X) au;have ab:=qo (z:=Y) he;rw[Bo (hV bn bQ) (hV au he)];generalize (aV X d).z=a at*;generalize (aV Y e).z=b at*;generalize (aV X d).d=p at*;generalize (aV Y e).d=q at*;rw[gZ,gZ,Cd,Cd];congr 1
 ·calc a*q*(d*e)=(a*d)*(q*e):=by simp only[j2,lv,mn]
   _=X*p*(q*e):=by rw[aa]
   _=X*e*(p*q):=by simp only[j2,lv,mn]
 ·calc b*p*(d*e)=(b*e)*(p*d):=by simp only[j2,lv,mn]
   _=Y*q*(p*d):=by rw[ab]
   _=Y*d*(p*q):=by simp only[j2,lv,mn]
theorem PK{X Y:Int}{d:Nat}(au:0<d):aV ((aV X d).z*(aV Y d).d+(aV Y d).z*(aV X d).d) ((aV X d).d*(aV Y d).d)=aV (X+Y) d:=by
 rw[I7 au au,Bo (hV au au) au,<-Cd,gZ,j2]
theorem aaP{X:Int}{d:Nat}(au:0<d):(⟨-(aV X d).z,(aV X d).d⟩:cH)=aV (-X) d:=by
 have c:=h8 (z:=X) au;refine ux ⟨c.1,?_⟩ au ?_
 ·show Nat.Coprime (-(aV X d).z).natAbs _;rw[y'];exact c.2
 ·show -(aV X d).z*d=-X*(aV X d).d;rw[za,qo au,za]
theorem aaL{X:Int}{d:Nat}(au:0<d):(⟨((aV X d).z.natAbs:Int),(aV X d).d⟩:cH)=aV (X.natAbs:Int) d:=by
 have c:=h8 (z:=X) au;refine ux ⟨c.1,c.2⟩ au ?_;have h:=aj Int.natAbs (qo (z:=X) au);rw[jo,jo,g8,g8] at h;show((aV X d).z.natAbs:Int)*(d:Int)=(X.natAbs:Int)*((aV X d).d:Int);rw[<-gZ,<-gZ,h]
theorem aaN{X:Int}{d:Nat}(au:0<d):aV ((aV X d).z*1) ((aV X d).d*2)=aV X (d*2):=by
 have c:=h8 (z:=X) au;rw[Bo (hV c.1 (by decide)) (hV au (by decide)),Fb,gZ,gZ,<-j2,qo au,j2]
end
end Go.Opn
namespace Go.Opn
noncomputable section
open Go.Cre Go.RowKit Go.Proofs
theorem cA.mh{J ae:an}{v w:Value}{x y:Nat}(h:cA J v x)(gB:cA ae w y)(hle:J.le ae)(e:v=w):x=y:=by subst e;exact h.BT gB hle
theorem j6(b:Bool):L9 b b=true:=by cases b<;>rfl
theorem U1{d e:Nat}(au:0<d)(he:0<e)(h:ij d=ij e):d=e:=by
 unfold ij at h;split at h<;>split at h<;>omega
theorem e5.zN{J ae:an}{r s:cH}{v1 v2 bh cb:Value}{x y:Bool}(h:e5 J r v1 v2)(gB:e5 ae s bh cb)(hle:J.le ae)(au:0<r.d)(he:0<s.d)(e:[Value.agg #[.bool x,v1,v2]]=[Value.agg #[.bool y,bh,cb]]):r.d=s.d:=by
 injection e with e
 injection e with e
 injection e with e
 injection e with _ e
 injection e with _ e
 injection e with e
 exact U1 au he (h.d.mh gB.d hle e)
theorem k0{a b c d:Value}(h:[a,b]=[c,d]):a=c/\b=d:=by
 injection h with aa ab
 injection ab with ab
 exact⟨aa,ab⟩
theorem z2{r s:cH}{v1 v2:Value}(h:r=s):cO r v1 v2=cO s v1 v2:=by rw[h]
theorem e5.cast{J:an}{r s:cH}{v1 v2:Value}(h:e5 J r v1 v2)(e:r=s):e5 J s v1 v2:=e▸h
section
variable {Q:ek Tryz.prog}{g0:Nat}{J:an}
theorem LI{r s:cH}{v1 v2 bh cb:Value}(al:e5 J r v1 v2)(af:e5 J s bh cb)(eV:r.fP)(cs:s.fP)(cX:r.z.natAbs<=1000000000)(cM:r.d<=1000000000)(s1:s.z.natAbs<=1000000000)(s2:s.d<=1000000000):Fn (aO Q g0) 67 [cO r v1 v2,cO s bh cb] [] J (nX J (aV (r.z*s.d+s.z*r.d) (r.d*s.d))):=by
 obtain⟨br,bI,bn,rfl,aR,eb,gK⟩:=al.n.bD;obtain⟨bN,cY,bQ,rfl,aN,e',gT⟩:=al.d.bD;obtain⟨cW,ee,cZ,rfl,bG,ua,sR⟩:=af.n.bD;obtain⟨dj,fa,dH,rfl,dd,Az,sS⟩:=af.d.bD;obtain⟨g,u,v,h,w,t,q,D⟩:=S' eV cs;have rd:=eV.1;have gM:=cs.1;have UM:=D.g0;have UQ:=D.aX;have MA:=D.jJ;have ha:=D.v2;have Va:=D.cb;have UP:=D.cn;have MB:=D.aec;have U':=D.jm;have MC:=D.w0;have Ik:(s.z*(u:Int)).natAbs=s.z.natAbs*u:=by rw[jo,g8]
 have Ia:(r.z*(v:Int)).natAbs=r.z.natAbs*v:=by rw[jo,g8]
 have kM:r.z.natAbs*v<=1000000000*1000000000:=pJ cX (eh ha s2);have kw:s.z.natAbs*u<=1000000000*1000000000:=pJ s1 (eh MA cM);have aM:=D.t1;have YT:t.natAbs<=2000000000000000000:=by rw[aM];exact eh (Int.natAbs_add_le _ _) (by rw[Ia,Ik];exact eh (Lf kM kw) (by decide))
 have aO:r.z.natAbs<4294967296:=hC cX (by decide);have yr:s.z.natAbs<4294967296:=hC s1 (by decide);have O6:u<4294967296:=hC (eh MA cM) (by decide);have dN:v<4294967296:=hC (eh ha s2) (by decide);have ZR:w<4294967296:=hC (eh Va s2) (by decide);have a9:r.d<18446744073709551616:=hC cM (by decide);have a4:s.d<18446744073709551616:=hC s2 (by decide);have ZF:g<18446744073709551616:=hC (eh UP cM) (by decide);have O5:t.natAbs<18446744073709551616:=hC YT (by decide);have ZP:(r.z*(v:Int)).natAbs+(s.z*(u:Int)).natAbs<18446744073709551616:=by rw[Ia,Ik];exact hC (Lf kM kw) (by decide)
 have A2:=hD UM;have A3:=hD UQ;have O7:=hD MB;have ZQ:=hD U';have ZS:=hD MC;have pj:=hD rd;have qh:=hD gM;have qb:c4 8 (cO r (.slice br bI bn) (.slice bN cY bQ)) (cO r (.slice br bI bn) (.slice bN cY bQ))=true:=by simp[c4,gP,aR,aN,j6]
 have ug:c4 8 (cO s (.slice cW ee cZ) (.slice dj fa dH)) (cO s (.slice cW ee cZ) (.slice dj fa dH))=true:=by simp[c4,gP,bG,dd,j6]
 refine Fn.ck (ch Tryz.func67) rfl rfl fun H=>?_;refine rg ?_;refine fc fun bX=>?_;refine fc fun cy=>?_;refine' W.step rfl (.of (eS rfl rfl rfl (k5 Q g0) rfl rfl rfl fun c0=>?_));refine bb ?_;refine I V.cF ?_;refine I V.cP ?_;refine I V.gL ?_;refine I V.a' ?_;refine aD ?_;refine If (fun gQ=>?_) fun gQ=>?_
 ·have sT:r.z=0:=by
   exact mo.1 (eb.z (by omega))
  have mD:aV (r.z*s.d+s.z*r.d) (r.d*s.d)=s:=by
   rw[sT,Gh eV sT,uW,Ff,w8,show s.z*((1:Nat):Int)=s.z from Fb _];exact Bp cs
  refine rg ?_;refine I V.gU ?_;refine eG ?_;refine aD ?_;refine ad.ret ?_;refine'⟨.inr rfl,rfl,_,[],.cell rfl (by repeat first|exact .head _|refine .tail _ ?_|refine d' _ ?_) (fb (dw rfl) rfl) (.nil),bZ _,?_⟩;first
   |(rw[mD];first|exact⟨an.le.refl _,rfl,_,_,rfl,af⟩|exact⟨an.le.refl _,rfl,_,_,rfl,al⟩)
 ·have sT:r.z≠0:=fun k=>by have:=eb.uv (mo.2 k);omega
  refine l8 ?_;refine I V.cF ?_;refine I V.cP ?_;refine I V.gL ?_;refine I V.a' ?_;refine aD ?_;refine If (fun oS=>?_) fun oS=>?_
  ·have dA:s.z=0:=by
    exact mo.1 (ua.z (by omega))
   have mD:aV (r.z*s.d+s.z*r.d) (r.d*s.d)=r:=by
    rw[dA,Gh cs dA,uW,Int.add_zero,iZ,show r.z*((1:Nat):Int)=r.z from Fb _];exact Bp eV
   refine rg ?_;refine I V.gU ?_;refine eG ?_;refine aD ?_;refine ad.ret ?_;refine'⟨.inr rfl,rfl,_,[],.cell rfl (by repeat first|exact .head _|refine .tail _ ?_|refine d' _ ?_) (fb (dw rfl) rfl) (.nil),bZ _,?_⟩;first
    |(rw[mD];first|exact⟨an.le.refl _,rfl,_,_,rfl,af⟩|exact⟨an.le.refl _,rfl,_,_,rfl,al⟩)
  ·have dA:s.z≠0:=fun k=>by have:=ua.uv (mo.2 k);omega
   have aan:r.z*(v:Int)≠0:=KL sT (by omega);have aau:s.z*(u:Int)≠0:=KL dA (by omega);have UN:(decide (r.z<0))=decide (r.z*(v:Int)<0):=by
    congr 1;apply propext
    constructor
    ·intro k;exact wZ k (by omega)
    ·intro k
     rcases r7 r.z 0 with j|j
     ·exact j
     ·have:=w1 j (show(0:Int)<=v by omega);omega
   have UO:(decide (s.z<0))=decide (s.z*(u:Int)<0):=by
    congr 1;apply propext
    constructor
    ·intro k;exact wZ k (by omega)
    ·intro k
     rcases r7 s.z 0 with j|j
     ·exact j
     ·have:=w1 j (show(0:Int)<=u by omega);omega
   refine e4 ?_;refine aG ?_;refine ad.draw rfl (by kernel_rfl) (a2:=[.val 0,.val 2,.bA 1,.b2 [2],.bA 3,.bA 4,.val 5]) (by kernel_rfl) ?_;refine a6 rfl V.gU ?_;refine a6 rfl V.gU ?_;refine bi.iU ?_;refine' aS.dO rfl rfl rfl rfl rfl rfl rfl rfl rfl c8 (my al pj) ?_;rintro v' m' bq a8 ⟨_,rfl,lH⟩;have oo:=lH;obtain⟨eU,gV,e2,rfl,fm,_,_⟩:=lH.bD;refine aS.b2 ez ?_;refine' aS.dO rfl rfl rfl rfl rfl rfl rfl rfl rfl (cj (fun _ aK=>iK.af a8 (al.zN (af.mono a8) a8 rd gM aK) rfl) c8) (my (af.mono a8) qh) ?_;rintro v' m' dR bO ⟨_,rfl,qd⟩;have nz:=qd;obtain⟨eP,ef,dU,rfl,ho,_,_⟩:=qd.bD;refine' aS.dO rfl rfl rfl rfl rfl rfl rfl rfl rfl (cj (cT rfl) (cj (cT rfl) c8)) (EH (oo.mono bO) nz a9 a4) ?_;rintro v' m' fV cL ⟨_,rfl,pf⟩;rw[D.cm] at pf;have lG:=pf;obtain⟨jM,lL,gA,rfl,mf,_,_⟩:=pf.bD;have sR:=((al.mono a8).mono bO).mono cL;have Ic:=((af.mono a8).mono bO).mono cL;refine aS.jj (fun x U=>ju (f:=fun x=>(x.f,x.cl)) U) ?_;refine a6 rfl V.aI ?_;refine bi.nil ?_;refine aG ?_;refine ad.draw rfl (by kernel_rfl) (a2:=[.val 0,.val 2,.val 4,.val 6,.bA 1,.b2 [6,4,2],.bA 3,.b2 [6,4],.bA 5,.b2 [6],.bA 7,.val 8,.val 9]) (by kernel_rfl) ?_;refine a6 rfl V.gU ?_;refine a6 rfl V.aJ ?_;refine a6 rfl V.gU ?_;refine a6 rfl V.aJ ?_;refine bi.iU ?_;refine' aS.dO rfl rfl rfl rfl rfl rfl rfl rfl rfl c8 (my sR pj) ?_;rintro v' m' lV eM ⟨_,rfl,pg⟩;have oq:=pg;obtain⟨j5,nF,gR,rfl,m2,_,_⟩:=pg.bD;refine aS.b2 ez ?_;refine' aS.dO rfl rfl rfl rfl rfl rfl rfl rfl rfl (cj (cT rfl) c8) (uF oq (lG.mono eM) A2 a9) ?_;rintro v' m' qR gC ⟨_,rfl,yh⟩;rw[D.jl] at yh;have pe:=yh;obtain⟨hI,po,e7,rfl,lo,_,_⟩:=yh.bD
   refine aS.b2 ez ?_;refine' aS.dO rfl rfl rfl rfl rfl rfl rfl rfl rfl (cj (cT rfl) (cj (fun _ aK=>iK.af (eM.trans gC) (sR.zN ((Ic.mono eM).mono gC) (eM.trans gC) rd gM aK) rfl) c8)) (my ((Ic.mono eM).mono gC) qh) ?_;rintro v' m' KV iI ⟨_,rfl,AS⟩;have AP:=AS;obtain⟨i',ma,dq,rfl,ln,_,_⟩:=AS.bD;refine aS.b2 ez ?_;refine' aS.dO rfl rfl rfl rfl rfl rfl rfl rfl rfl (cj (cT rfl) (cj (fun _ aK=>iK.af (gC.trans iI) (aj (·/ g) (oq.mh AP (gC.trans iI) (k0 aK).1)) rfl) (cj (cT rfl) c8))) (uF AP (((lG.mono eM).mono gC).mono iI) A2 a4) ?_;rintro v' m' Cg je ⟨_,rfl,ye⟩;rw[D.v1] at ye;have v0:=ye;obtain⟨va,aao,mA,rfl,BE,_,_⟩:=ye.bD;have pe:=(pe.mono iI).mono je;have lG:=(((lG.mono eM).mono gC).mono iI).mono je;have AI:=(((sR.mono eM).mono gC).mono iI).mono je;have x9:=(((Ic.mono eM).mono gC).mono iI).mono je;refine aS.jj (fun x U=>ju (f:=fun x=>(x.f,x.cl)) U) ?_;refine e3 ?_;refine bi.nil ?_;refine aG ?_;refine ad.draw rfl (by kernel_rfl) (a2:=[.val 0,.val 1,.val 2,.val 3,.val 4,.val 6,.val 7,.val 8,.val 9,.val 10,.bA 5,.b2 [10,9,8,7,6,1,0],.bA 11,.b2 [7,6,1,0],.bA 12,.val 13,.val 14,.val 15,.val 16,.val 17]) (by kernel_rfl) ?_;refine a6 rfl V.cF ?_;refine a6 rfl V.cP ?_;refine a6 rfl V.cF ?_;refine a6 rfl V.cP ?_;refine e3 ?_;refine a6 rfl V.cP ?_;refine a6 rfl V.cF ?_;refine a6 rfl V.cP ?_;refine a6 rfl V.aJ ?_;refine bi.iU ?_;refine' aS.dO rfl rfl rfl rfl rfl rfl rfl rfl rfl c8 (wI AI.n v0 (w2.2 sT) ZQ aO dN) ?_;rintro v' m' KW ht ⟨_,rfl,AT⟩;have DP:=AT;obtain⟨vb,Bi,jb,rfl,BF,_,_⟩:=AT.bD;refine aS.b2 ez ?_
   refine' aS.dO rfl rfl rfl rfl rfl rfl rfl rfl rfl (cj (fun _ aK=>iK.af ht (by rw[AI.n.mh (x9.mono ht).n ht (k0 aK).1,v0.mh (pe.mono ht) ht (k0 aK).2]) rfl) c8) (wI (x9.mono ht).n (pe.mono ht) (w2.2 dA) O7 yr O6) ?_;rintro v' m' Ch jf ⟨_,rfl,AU⟩;have DQ:=AU;obtain⟨FT,aap,zA,rfl,Jw,_,_⟩:=AU.bD;refine aS.b2 ez ?_;refine' aS.dO rfl rfl rfl rfl rfl rfl rfl rfl rfl (cj (cT rfl) (cj (cT rfl) c8)) (ac6 (dE:=r.z*v) (ej:=s.z*u) UN UO (by rw[Ia];exact DP.mono jf) (by rw[Ik];exact DQ) aan aau ZP) ?_;rintro v' m' Fg ky ⟨_,rfl,afV,ah5,rfl,yf,Ow⟩;rw[<-aM] at yf Ow;have yd:=yf;obtain⟨FU,aaq,gQ,rfl,Jx,N8,_⟩:=yf.bD;have lG:=((lG.mono ht).mono jf).mono ky;have pe:=((pe.mono ht).mono jf).mono ky;have YJ:=((x9.mono ht).mono jf).mono ky;refine aS.jj (fun x U=>ju (f:=fun x=>(x.f,x.cl)) U) ?_;refine e3 ?_;refine bi.nil ?_;refine rg ?_;refine aH ?_;refine I V.a' ?_;refine aD ?_;refine If (fun F8=>?_) fun F8=>?_
   ·have DN:t=0:=by
     exact mo.1 (N8.z (by omega))
    have mD:aV (r.z*s.d+s.z*r.d) (r.d*s.d)=⟨0,1⟩:=by rw[D.kn DN];exact mV (hV rd gM)
    refine rg ?_;refine I V.jx ?_;refine eG ?_;refine aD ?_;refine ad.ret ?_;refine'⟨.inr rfl,rfl,_,[],.cell rfl (by repeat first|exact .head _|refine .tail _ ?_|refine d' _ ?_) (fb (dw rfl) rfl) (.nil),bZ _,?_⟩;first
     |(have c:=F8
       first
           |(rw[mD];exact⟨((((((((a8.trans bO).trans cL).trans eM).trans gC).trans iI).trans je).trans ht).trans jf).trans ky,rfl,.slice none 0 0,.slice none 0 0,rfl,cA.nil,cA.nil⟩)
           |exact⟨((((((((((((((a8.trans bO).trans cL).trans eM).trans gC).trans iI).trans je).trans ht).trans jf).trans ky).trans kz).trans kA).trans mM).trans tZ).trans oh).trans sM,rfl,_,_,z2 D.m4,cK.cast D.m4⟩)
     |(rw[mD];first|exact⟨an.le.refl _,rfl,_,_,rfl,af⟩|exact⟨an.le.refl _,rfl,_,_,rfl,al⟩)
   ·have DN:t≠0:=fun k=>by have:=N8.uv (mo.2 k);omega
    refine l8 ?_;refine aH ?_;refine b4 (G:=EH yd lG O5 ZF) (h:=?_);rintro v' m' KQ kz ⟨_,rfl,yg⟩;rw[D.aa] at yg;have AQ:=yg;obtain⟨LZ,aar,fQ,rfl,Ql,_,_⟩:=yg.bD;have YK:=YJ.mono kz;refine I V.aI ?_;refine aD ?_;refine ad.draw rfl (by kernel_rfl) (a2:=[.val 0,.val 1,.val 2,.val 4,.val 5,.val 7,.bA 3,.b2 [7,5,4,0],.bA 6,.b2 [7,4,0],.bA 8,.b2 [4,0],.bA 9,.b2 [0],.bA 10,.bA 11]) (by kernel_rfl) ?_;refine e3 ?_;refine a6 rfl V.gU ?_;refine a6 rfl V.aJ ?_;refine bi.iU ?_;refine' aS.dO rfl rfl rfl rfl rfl rfl rfl rfl rfl c8 (uF (yd.mono kz) AQ A3 O5) ?_;rintro v' m' KR kA ⟨_,rfl,AV⟩;have DR:=AV;obtain⟨L0,aas,nm,rfl,Qm,_,_⟩:=AV.bD;refine aS.b2 ez ?_;refine' aS.dO rfl rfl rfl rfl rfl rfl rfl rfl rfl (cj (cT rfl) c8) (my (YK.mono kA) qh) ?_;rintro v' m' KS mM ⟨_,rfl,OF⟩;have OB:=OF;obtain⟨FV,Py,ve,rfl,Jy,_,_⟩:=OF.bD;refine aS.b2 ez ?_;refine' aS.dO rfl rfl rfl rfl rfl rfl rfl rfl rfl (cj (cT rfl) (cj (fun _ aK=>iK.af (kA.trans mM) (aj (·/ h) ((yd.mono kz).mh OB (kA.trans mM) (k0 aK).1)) rfl) c8)) (uF OB ((AQ.mono kA).mono mM) A3 a4) ?_;rintro v' m' KT tZ ⟨_,rfl,Iu⟩;rw[D.bh] at Iu;have Y8:=Iu;obtain⟨FW,yw,hY,rfl,Jz,_,_⟩:=Iu.bD;refine aS.b2 ez ?_;refine' aS.dO rfl rfl rfl rfl rfl rfl rfl rfl rfl (cj (cT rfl) (cj (cT rfl) (cj (cT rfl) c8))) (wI ((((pe.mono kz).mono kA).mono mM).mono tZ) Y8 O7 ZS O6 ZR) ?_;rintro v' m' Sp oh ⟨_,rfl,OG⟩;have AR:=OG;obtain⟨L1,aat,oS,rfl,Qn,_,_⟩:=OG.bD;refine aS.b2 ez ?_;refine' aS.dO rfl rfl rfl rfl rfl rfl rfl rfl rfl (cj (cT rfl) (cj (cT rfl) (cj (cT rfl) (cj (cT rfl) c8)))) (Bb (r:=⟨q,u*w⟩) (by rw[D.aR] at DR;exact((DR.mono mM).mono tZ).mono oh) AR (fun _=>by rw[Ow DN];exact oW.2 D.aN) (fun k=>absurd (D.bG.2 k) DN) (hD (hV MB MC))) ?_
    rintro v' m' Sq sM ⟨_,rfl,fy,fF,rfl,bY⟩;have cK:=bY;obtain⟨L2,aav,la,rfl,Qo,_,_⟩:=bY.n.bD;obtain⟨Ts,yx,nn,rfl,ack,_,_⟩:=bY.d.bD;refine aS.jj (fun x U=>ju (f:=fun x=>(x.f,x.cl)) U) ?_;refine k7 rfl ?_;refine bi.nil ?_;refine aG ?_;refine ad.ret ?_;refine'⟨.inr rfl,rfl,_,[],.cell rfl (by repeat first|exact .head _|refine .tail _ ?_|refine d' _ ?_) (fb (dw rfl) rfl) (.nil),bZ _,?_⟩;first
     |(have c:=F8
       first
           |(rw[mD];exact⟨((((((((a8.trans bO).trans cL).trans eM).trans gC).trans iI).trans je).trans ht).trans jf).trans ky,rfl,.slice none 0 0,.slice none 0 0,rfl,cA.nil,cA.nil⟩)
           |exact⟨((((((((((((((a8.trans bO).trans cL).trans eM).trans gC).trans iI).trans je).trans ht).trans jf).trans ky).trans kz).trans kA).trans mM).trans tZ).trans oh).trans sM,rfl,_,_,z2 D.m4,cK.cast D.m4⟩)
     |(rw[mD];first|exact⟨an.le.refl _,rfl,_,_,rfl,af⟩|exact⟨an.le.refl _,rfl,_,_,rfl,al⟩)
end
end
end Go.Opn

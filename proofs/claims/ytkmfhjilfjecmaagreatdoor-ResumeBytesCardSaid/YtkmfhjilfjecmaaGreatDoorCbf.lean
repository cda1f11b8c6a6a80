/- A part of the proof of ResumeBytes. -/
import Derived.Test.YtkmfhjilfjecmaaGreatDoorCbe
import Derived.Test.YtkmfhjilfjecmaaGreatDoorCay
set_option maxRecDepth 100000
set_option maxHeartbeats 4000000
set_option linter.unusedVariables false
set_option linter.unusedSimpArgs false
namespace Go.Opn
noncomputable section
open Go.Cre Go.RowKit Go.Proofs
theorem Ea{s:List Int}{x:Int}(h:s[0]?=some x):fj s=x:=by
 cases s with
 |nil=>cases h
 |cons y r=>simp at h;subst h;rfl
section
variable {Q:dD Tryz.prog}{g0:Nat}{J:aH}
theorem anL{g:bq}{aT aK:Option Addr}{aQ ci:Nat}(aq:fH J g aT aQ aK ci):
 Fn (bd Q g0) 53 [hb g aT aQ aK ci] [] J (tr (.int .i64 (h8 g)) J):=by
 obtain⟨_,fE⟩:=aq.n.at;obtain⟨_,kx⟩:=aq.i.at;have fX:addrEq aK aK=true:=aq.i.addr;have gq:addrEq aT aT=true:=aq.n.addr;refine Fn.cH (cM Tryz.func53) rfl rfl fun H=>?_;refine rg ?_;refine dK fun bm=>?_;refine I V.az ?_;refine a6 ?_;refine fR [1] ?_;refine aj ?_;refine' ab.hl 0 [(36,.bool (decide ((g.pl<1\/4<g.pl\/g.ns.length<1\/2000<g.ns.length\/200<g.is.length))))] ?mW ?n7;case mW=>
  refine ab.region ?_;refine I V.ba ?_;refine I V.aG ?_;refine I V.aZ ?_;refine I V.ag ?_;refine dr 14 (fun n'=>?_) fun n'=>?_
  ·refine ah ?_;refine ah ?_;refine ah ?_;refine I V.aU ?_;refine I V.ag ?_;refine ah ?_;refine ah ?_;refine ah ?_;refine ah ?_;refine I V.aU ?_;refine I V.ag ?_;refine ah ?_;refine ah ?_;refine ah ?_;refine ah ?_;refine I V.aU ?_;refine I V.ag ?_;refine ah ?_;refine ah ?_;refine ah ?_;refine ah ?_;refine I V.aU ?_;refine a6 ?_;exact ce
  ·refine aX V.ba ?_;refine aX V.aG ?_;refine aX V.aZ ?_;refine I V.aU ?_;refine I V.ag ?_;refine dr 19 (fun xn=>?_) fun xn=>?_
   ·refine ah ?_;refine ah ?_;refine ah ?_;refine ah ?_;refine I V.aU ?_;refine I V.ag ?_;refine ah ?_;refine ah ?_;refine ah ?_;refine ah ?_;refine I V.aU ?_;refine I V.ag ?_;refine ah ?_;refine ah ?_;refine ah ?_;refine ah ?_;refine I V.aU ?_;refine a6 ?_;exact ce
   ·refine aX V.ba ?_;refine aX V.aG ?_;refine aX V.bL ?_;refine aX V.aZ ?_;refine I V.aU ?_;refine I V.ag ?_;refine dr 25 (fun A8=>?_) fun A8=>?_
    ·refine ah ?_;refine ah ?_;refine ah ?_;refine ah ?_;refine I V.aU ?_;refine I V.ag ?_;refine ah ?_;refine ah ?_;refine ah ?_;refine ah ?_;refine I V.aU ?_;refine a6 ?_;exact ce
    ·refine aX V.ba ?_;refine aX V.aG ?_;refine aX V.bL ?_;refine aX V.aZ ?_;refine I V.aU ?_;refine I V.ag ?_;refine dr 31 (fun A9=>?_) fun A9=>?_
     ·refine ah ?_;refine ah ?_;refine ah ?_;refine ah ?_;refine I V.aU ?_;refine a6 ?_;exact ce
     ·refine aX V.ba ?_;refine aX V.aG ?_;refine aX V.bL ?_;refine aX V.aZ ?_;refine I V.aU ?_;refine a6 ?_;exact ce
 case n7=>
  refine aj ?_;refine If (fun fW=>?_) fun fW=>?_
  ·refine rg ?_;refine I V.az ?_;refine ns ?_;refine ab.ret ?_;refine c5 ?_;refine⟨cD (Value.int .i64) ?_,rfl,by first|exact aH.le.refl _|exact ch⟩;symm;first
    |exact qf fW
    |exact qe fW gL ee mx
    |(rw[qg fW gL ee mx]
      unfold pV;first
          |(have c:=fL
            rw[an fL];first
             |(rw[an (fun⟨s,aa,ae⟩=>ca s aa ae)]
               first
                  |(rw[an (fun⟨j,s,t,aa,ae,aF⟩=>bx j s t (by have:=(dY.1 ae).1;omega) aa ae aF)]))))
  ·refine aj ?_;refine ab.skip ?_;refine rg ?_;refine I V.az ?_;refine ns ?_;refine ab.block ?_;refine' ab.c0 (l':=[(3,.int .i64 ((0):Int)),(1,_)]) ⟨?jf,rfl,trivial⟩ (bu _) ?_;case jf=>exact bP
   refine aj ?_;refine' ab.dF (fun(i:Nat)=>⟨[(3,.int .i64 (i:Int))],[(bm,.row (iw g aT aQ aK ci) 27)],J,i<=g.ns.length/\∀x∈g.ns.take i,eu g x=0,g.ns.length -i⟩) (0) ?hs ?bA;case hs=>exact⟨cy _,fun x U=>by cases U⟩
   case bA=>
    rintro i hinv;try simp only at hinv
    obtain⟨ao,bx⟩:=hinv;refine rg ?_;refine aM ?_;refine I V.aG ?_;refine I V.bL ?_;refine I V.aZ ?_;refine ns ?_;refine If (fun Nq=>?_) fun Nq=>?_
    ·obtain⟨a,off,cells,bz,rfl,mC,ec⟩:=fE (by omega);obtain⟨x,cs,U,gU,_,ei⟩:=ec i (by omega) (by omega);obtain⟨b1,c1,b2,c2,b3,c3,rfl,eG,gM,gA⟩:=ei;have bb:addrEq b1 b1=true:=by obtain⟨e,h⟩:=eG;exact h.addr
     have a7:addrEq b2 b2=true:=by obtain⟨e,h⟩:=gM;exact h.addr
     have b8:addrEq b3 b3=true:=by obtain⟨e,h⟩:=gA;exact h.addr
     rw[cx] at U;refine c7 ?_;refine aj ?_;refine ab.block ?_;refine aj ?_;refine ab.draw rfl (by kernel_rfl) (bc:=[.val 0,.val 1,.val 2,.val 3,.val 4,.val 5,.bR 6,.val 7]) (by kernel_rfl) ?_;refine al rfl V.c9 ?_;refine al rfl V.ba ?_;refine al rfl V.aG ?_;refine al rfl V.ag ?_;refine al rfl V.aW ?_;refine al rfl V.c9 ?_;refine dl rfl (G:=anO gM gA (by omega) fX gq bb) (h:=?_);rintro v m' af hle ⟨rfl,rfl,rfl⟩;refine al rfl V.az ?_;refine a8.nil ?_;refine rg ?_;refine I V.ag ?_;refine I V.aZ ?_;refine ns ?_;refine If (fun n5=>?_) fun n5=>?_
     ·refine rg ?_;refine aM ?_;refine ns ?_;refine ab.ret ?_;refine c5 ?_;refine⟨cD (Value.int .i64) ?_,rfl,by first|exact aH.le.refl _|exact ch⟩;symm;first
        |exact qf fW
        |(have c:=n5;exact(DT fW (by rw[s5 bx U n5];exact n5)).trans (s5 bx U n5))
        |exact qe fW gL ee mx
        |(rw[qg fW gL ee mx]
          unfold pV;first
             |(have c:=fL
               rw[an fL];first
                 |(rw[an (fun⟨s,aa,ae⟩=>ca s aa ae)]
                   first
                     |(rw[an (fun⟨j,s,t,aa,ae,aF⟩=>bx j s t (by have:=(dY.1 ae).1;omega) aa ae aF)]))))
     ·refine aj ?_;refine ab.skip ?_;refine rg ?_;refine I V.ag ?_;refine I V.bt ?_;refine I V.az ?_;refine a6 ?_;refine cB (i+1) ?_;exact⟨by omega,te bx U (gQ.1 n5)⟩
    ·have fB:∀x∈g.ns,eu g x=0:=by
        rw[eo (by omega)] at bx;exact bx
     have gL:=X2 fB;have nO:∀x∈g.ns,x.ak.length<=60:=fun x U=>(ES (fB x U) (by omega)).1;refine aj ?_;refine ab.exit ?_;refine rg ?_;refine' W.step rfl (.of (eT rfl rfl rfl (aaE Q g0) rfl rfl rfl fun a5=>?_));refine dC ?_;refine ns ?_;refine ab.draw rfl (by kernel_rfl) (bc:=[.val 0,.val 2,.val 3,.val 4,.bR 1,.val 5,.cA [4,3,2]]) (by kernel_rfl) ?_;refine al rfl V.c9 ?_;refine al rfl V.ba ?_;refine al rfl V.aG ?_;refine al rfl V.bL ?_;refine' a8.call rfl rfl rfl rfl rfl rfl rfl rfl rfl rfl (bf:=[sy a5 0]) (bM:=[_]) (.refl _) trivial (anV aq (by omega) nO (g.ns.length+1) 0 (-1) 0 0 (by omega) (cy _) (by omega) (by omega)) ?_;rintro v m' af hle ⟨rfl,d2,ed,rfl,rfl,hm⟩;refine al rfl V.aZ ?_;refine a8.cA eX ?_;refine a8.nil ?_;refine aj ?_;refine If (fun iv=>?_) fun iv=>?_
     ·refine rg ?_;refine I V.az ?_;refine ns ?_;refine ab.ret ?_;refine c5 ?_;refine⟨cD (Value.int .i64) ?_,rfl,by first|exact aH.le.refl _|exact ch⟩;symm;first
        |exact qf fW
        |(have c:=iv
          exact sF fW gL (fun⟨es,q⟩=>by rw[q] at hm;simp only at hm;omega))
        |exact qe fW gL ee mx
        |(rw[qg fW gL ee mx]
          unfold pV;first
             |(have c:=fL
               rw[an fL];first
                 |(rw[an (fun⟨s,aa,ae⟩=>ca s aa ae)]
                   first
                     |(rw[an (fun⟨j,s,t,aa,ae,aF⟩=>bx j s t (by have:=(dY.1 ae).1;omega) aa ae aF)]))))
     ·obtain⟨es,ee,xE⟩:∃es,dN g.ns (g.ns.length+1) (-1) 0 0=some (g.ns.length,es)/\d2=rj es:=by
        cases ee:dN g.ns (g.ns.length+1) (-1) 0 0 with
        |none=>rw[ee] at hm;simp only at hm;omega
        |some p=>obtain⟨bX,aL⟩:=p;rw[ee] at hm;simp only at hm;exact⟨aL,by rw[show bX=g.ns.length by omega],hm.2⟩
      subst xE;refine ln ?_;refine I V.aG ?_;refine I V.aZ ?_;refine ns ?_;refine If (fun mx=>?_) fun mx=>?_
      ·
        refine rg ?_;refine I V.az ?_;refine ns ?_;refine ab.ret ?_;refine c5 ?_;refine⟨cD (Value.int .i64) ?_,rfl,by first|exact aH.le.refl _|exact ch⟩;symm;first
         |exact qf fW
         |(have c:=iv
           exact sF fW gL (fun⟨es,q⟩=>by rw[q] at hm;simp only at hm;omega))
         |exact qe fW gL ee mx
         |(rw[qg fW gL ee mx]
           unfold pV;first
               |(have c:=fL
                 rw[an fL];first
                  |(rw[an (fun⟨s,aa,ae⟩=>ca s aa ae)]
                    first
                       |(rw[an (fun⟨j,s,t,aa,ae,aF⟩=>bx j s t (by have:=(dY.1 ae).1;omega) aa ae aF)]))))
      ·
        refine aj ?_;refine ab.skip ?_;refine rg ?_;refine I V.az ?_;refine ns ?_;refine ab.block ?_;refine' ab.c0 (l':=[(6,.int .i64 ((0):Int)),(1,_)]) ⟨?nv,rfl,trivial⟩ (bu _) ?_;case nv=>exact bP
        refine aj ?_;refine' ab.dF (fun(i:Nat)=>⟨[(6,.int .i64 (i:Int))],[sy a5 (rj es),(bm,.row (iw g aT aQ aK ci) 27)],J,i<=g.ns.length/\∀x∈g.ns.take i,x.k=2->g.is[x.i.toNat]?=some (x.p,(x.ak.length:Int)),g.ns.length -i⟩) (0) ?hs ?bA;case hs=>exact⟨cy _,fun x U=>by cases U⟩
        case bA=>
         rintro i hinv;try simp only at hinv
         obtain⟨ao,bx⟩:=hinv;refine rg ?_;refine aM ?_;refine I V.aG ?_;refine I V.bL ?_;refine I V.aZ ?_;refine ns ?_;refine If (fun Dk=>?_) fun Dk=>?_
         ·obtain⟨a,off,cells,bz,rfl,mC,ec⟩:=fE (by omega);obtain⟨x,cs,U,gU,_,ei⟩:=ec i (by omega) (by omega);obtain⟨b1,c1,b2,c2,b3,c3,rfl,eG,gM,gA⟩:=ei;have bb:addrEq b1 b1=true:=by obtain⟨e,h⟩:=eG;exact h.addr
          rw[cx] at U;have e4:=fB x (cb U);refine c7 ?_;refine aj ?_;refine ab.block ?_;refine rg ?_;refine I V.ba ?_;refine I V.aG ?_;refine I V.ag ?_;refine I V.aW ?_;refine I V.c9 ?_;refine' W.step rfl (.of (eT rfl rfl rfl (oB Q g0) rfl rfl rfl fun cT=>?_));refine dC ?_;refine ns ?_;refine ab.DF [] rfl (by kernel_rfl) (bc:=[.val 0,.val 1,.val 2,.val 3,.val 4,.val 5,.val 6,.val 7,.val 8,.val 9,.val 10,.val 11,.val 12,.val 13,.val 14,.val 15,.val 16,.val 17,.val 18,.val 19,.val 20,.val 21,.val 22,.val 23,.val 24,.val 25,.val 26,.val 27]) (by kernel_rfl) ?_;refine dk rfl V.ba ?_;refine dk rfl V.aG ?_;refine dk rfl V.aZ ?_;refine dk rfl V.ag ?_;refine ts 77 (fun A7=>?_) fun A7=>?_
          ·have ui:=IF e4 (by simpa using A7);obtain⟨g',Yc,acN,aew,rfl,mD,Pg⟩:=kx (by omega);obtain⟨y,cs,ai,ub,mf,rfl⟩:=Pg x.i (by omega) (by omega);have Hy:=mf 0 _ (by decide) rfl;have nf:=mf 1 _ (by decide) rfl;refine df rfl V.ba ?_;refine df rfl V.aG ?_;refine df rfl V.ba ?_;refine df rfl V.aG ?_;refine df rfl V.aW ?_;refine df rfl V.ba ?_;refine df rfl V.aG ?_;refine df rfl V.ba ?_;refine df rfl V.aG ?_;refine df rfl V.aZ ?_;refine df rfl V.ag ?_;refine ts 88 (fun A6=>?_) fun A6=>?_
           ·refine cg rfl ?_;refine cg rfl ?_;refine cg rfl ?_;refine cg rfl ?_;refine cg rfl ?_;refine cg rfl ?_;refine cg rfl ?_;refine cg rfl ?_;refine cg rfl ?_;refine cg rfl ?_;refine cg rfl ?_;refine df rfl V.aU ?_;refine dk rfl V.aU ?_;refine dv.nil ?_;refine aj ?_;refine ab.Kk rfl ?_;refine rg ?_;refine I V.az ?_;refine ns ?_;refine ab.ret ?_;refine c5 ?_;refine⟨cD (Value.int .i64) ?_,rfl,by first|exact aH.le.refl _|exact ch⟩;symm;first
             |exact qf fW
             |(have c:=iv
               exact sF fW gL (fun⟨es,q⟩=>by rw[q] at hm;simp only at hm;omega))
             |exact qe fW gL ee mx
             |(rw[qg fW gL ee mx]
               unfold pV;first
                   |(have c:=A6
                     rw[aE ⟨x,cb U,by simpa using A7,fun q=>by rw[ai] at q;injection q with q;rw[q] at A6;exact A6 rfl⟩])
                   |(have c:=fL
                     rw[an fL];first
                      |(rw[an (fun⟨s,aa,ae⟩=>ca s aa ae)]
                        first
                           |(rw[an (fun⟨j,s,t,aa,ae,aF⟩=>bx j s t (by have:=(dY.1 ae).1;omega) aa ae aF)]))))
           ·refine df rfl V.ba ?_;refine df rfl V.aG ?_;refine df rfl V.ba ?_;refine df rfl V.aG ?_;refine df rfl V.aW ?_;refine df rfl V.ba ?_;refine df rfl V.aG ?_;refine df rfl V.ba ?_;refine df rfl V.aG ?_;refine df rfl V.bL ?_;refine df rfl V.aZ ?_;refine df rfl V.aU ?_;refine dk rfl V.aU ?_;refine dv.nil ?_;refine aj ?_;refine If (fun Kc=>?_) fun Kc=>?_
            ·refine rg ?_;refine I V.az ?_;refine ns ?_;refine ab.ret ?_;refine c5 ?_;refine⟨cD (Value.int .i64) ?_,rfl,by first|exact aH.le.refl _|exact ch⟩;symm;first
              |exact qf fW
              |(have c:=iv
                exact sF fW gL (fun⟨es,q⟩=>by rw[q] at hm;simp only at hm;omega))
              |exact qe fW gL ee mx
              |(rw[qg fW gL ee mx]
                unfold pV;first
                    |(have c:=Kc
                      rw[aE ⟨x,cb U,by simpa using A7,fun q=>by rw[ai] at q;injection q with q;rw[q] at Kc;exact Kc rfl⟩])
                    |(have c:=A6
                      rw[aE ⟨x,cb U,by simpa using A7,fun q=>by rw[ai] at q;injection q with q;rw[q] at A6;exact A6 rfl⟩])
                    |(have c:=fL
                      rw[an fL];first
                       |(rw[an (fun⟨s,aa,ae⟩=>ca s aa ae)]
                         first
                            |(rw[an (fun⟨j,s,t,aa,ae,aF⟩=>bx j s t (by have:=(dY.1 ae).1;omega) aa ae aF)]))))
            ·refine aj ?_;refine ab.skip ?_;refine rg ?_;refine I V.ag ?_;refine I V.bt ?_;refine I V.az ?_;refine a6 ?_;refine cB (i+1) ?_ (hm:=.cons _ (.refl _));refine⟨by omega,te bx U fun aO=>?_⟩;first|exact absurd aO (by simpa using A7)|(rw[ai];have aL:y.1=x.p:=(by omega);have bk:y.2=(x.ak.length:Int):=(by omega);rw[<-aL,<-bk])
          ·refine cg rfl ?_;refine cg rfl ?_;refine cg rfl ?_;refine cg rfl ?_;refine cg rfl ?_;refine cg rfl ?_;refine cg rfl ?_;refine cg rfl ?_;refine cg rfl ?_;refine cg rfl ?_;refine cg rfl ?_;refine dv.oA rfl rfl rfl rfl rfl ?_;refine dv.oA rfl rfl rfl rfl rfl ?_;refine dv.oA rfl rfl rfl rfl rfl ?_;refine dv.oA rfl rfl rfl rfl rfl ?_;refine dv.oA rfl rfl rfl rfl rfl ?_;refine dv.oA rfl rfl rfl rfl rfl ?_;refine dv.oA rfl rfl rfl rfl rfl ?_;refine dv.oA rfl rfl rfl rfl rfl ?_;refine dv.oA rfl rfl rfl rfl rfl ?_;refine dv.oA rfl rfl rfl rfl rfl ?_;refine dv.oA rfl rfl rfl rfl rfl ?_;refine cg rfl ?_;refine dk rfl V.aU ?_;refine dv.nil ?_;refine aj ?_;refine ab.w' rfl ?_;refine ln ?_;refine I V.ag ?_;refine I V.bt ?_;refine I V.az ?_;refine a6 ?_;refine cB (i+1) ?_ (hm:=.cons _ (.refl _));refine⟨by omega,te bx U fun aO=>?_⟩;first|exact absurd aO (by simpa using A7)|(rw[ai];have aL:y.1=x.p:=(by omega);have bk:y.2=(x.ak.length:Int):=(by omega);rw[<-aL,<-bk])
         ·have fL:¬∃x∈g.ns,x.k=2/\g.is[x.i.toNat]?≠some (x.p,(x.ak.length:Int)):=by
           rintro⟨x,aa,ae,aF⟩;rw[eo (by omega)] at bx;exact aF (bx x aa ae)
          refine aj ?_;refine ab.exit ?_;refine rg ?_;refine I V.c9 ?_;refine cl (G:=Rz aq (by omega) (by omega) fB) (h:=?_);rintro v m' dO ch ⟨De,my,rfl,rfl,_,kw⟩;refine I V.az ?_;refine a6 ?_;obtain⟨_,lM⟩:=kw.at;have lj:(gC g).length<=200:=by rw[uI];omega
          refine rg ?_;refine I V.az ?_;refine ns ?_;refine ab.block ?_;refine' ab.c0 (l':=[(9,.int .i64 ((0):Int)),(8,_)]) ⟨?p3,rfl,trivial⟩ (bu _) ?_;case p3=>exact bP
          refine aj ?_;refine' ab.dF (fun(i:Nat)=>⟨[(9,.int .i64 (i:Int))],[sy a5 (rj es),(bm,.row (iw g aT aQ aK ci) 27)],dO,i<=(gC g).length/\∀s∈(gC g).take i,s≠[],(gC g).length -i⟩) (0) ?hs ?bA;case hs=>exact⟨cy _,fun x U=>by cases U⟩
          case bA=>
           rintro i hinv;try simp only at hinv
           obtain⟨ao,bx⟩:=hinv;refine rg ?_;refine aM ?_;refine I V.aZ ?_;refine ns ?_;refine If (fun ace=>?_) fun ace=>?_
           ·obtain⟨abC,LM,acO,mA,rfl,ob,KW⟩:=lM (by omega);obtain⟨s,cs,hs,gU,iz,b,c,rfl,Eu⟩:=KW i (by omega) (by omega);have Hy:=iz 0 _ (by decide) rfl;rw[cx] at hs;refine c7 ?_;refine aj ?_;refine ab.block ?_;refine rg ?_;refine aM ?_;refine I V.aW ?_;refine I V.aG ?_;refine I V.bL ?_;refine I V.aZ ?_;refine ns ?_;refine If (fun Nl=>?_) fun Nl=>?_
            ·refine rg ?_;refine I V.az ?_;refine ns ?_;refine ab.ret ?_;refine c5 ?_;refine⟨cD (Value.int .i64) ?_,rfl,by first|exact aH.le.refl _|exact ch⟩;symm;first
               |exact qf fW
               |(have c:=iv
                 exact sF fW gL (fun⟨es,q⟩=>by rw[q] at hm;simp only at hm;omega))
               |exact qe fW gL ee mx
               |(rw[qg fW gL ee mx]
                 unfold pV;first
                    |(have c:=fL
                      rw[an fL];first
                        |(have c:=Nl;rw[aE ⟨s,cb hs,q5.1 (by omega)⟩])
                        |(rw[an (fun⟨s,aa,ae⟩=>ca s aa ae)]
                          first
                            |(rw[an (fun⟨j,s,t,aa,ae,aF⟩=>bx j s t (by have:=(dY.1 ae).1;omega) aa ae aF)]))))
            ·refine aj ?_;refine ab.skip ?_;refine rg ?_;refine I V.ag ?_;refine I V.bt ?_;refine I V.az ?_;refine a6 ?_;refine cB (i+1) ?_;exact⟨by omega,te bx hs (fun q=>by subst q;exact Nl rfl)⟩
           ·have ca:∀s∈gC g,s≠[]:=by
             rw[eo (by omega)] at bx;exact bx
            refine aj ?_;refine ab.exit ?_;refine rg ?_;refine I V.az ?_;refine ns ?_;refine ab.block ?_;refine' ab.c0 (l':=[(10,.int .i64 ((1):Int)),(8,_)]) ⟨?p1,rfl,trivial⟩ (bu _) ?_;case p1=>exact bP
            refine aj ?_;refine' ab.dF (fun(i:Nat)=>⟨[(10,.int .i64 (i:Int))],[sy a5 (rj es),(bm,.row (iw g aT aQ aK ci) 27)],dO,1<=i/\(∀(j:Nat) (s t:List Int),j+1<i->(gC g)[j]?=some s->(gC g)[j+1]?=some t->¬fj t<fj s),(gC g).length -i⟩) (1) ?hs ?bA;case hs=>exact⟨cW _,fun j s t h=>by omega⟩
            case bA=>
             rintro i hinv;try simp only at hinv
             obtain⟨ao,bx⟩:=hinv;refine rg ?_;refine aM ?_;refine I V.aZ ?_;refine ns ?_;refine If (fun acg=>?_) fun acg=>?_
             ·obtain⟨abC,LM,acO,mA,rfl,ob,KW⟩:=lM (by omega);obtain⟨s1,gl,ig,as3,aiz,b1,c1,rfl,ajH⟩:=KW i (by omega) (by omega);obtain⟨r4,jo,Et,as2,sP,Dc,dS,rfl,ajG⟩:=KW ((i:Int) -1) (by omega) (by omega);have nf:=aiz 0 _ (by decide) rfl;have Hy:=sP 0 _ (by decide) rfl;rw[cx] at ig;have P5:(gC g)[i -1]?=some r4:=by rw[<-Et];congr 1;omega
              have bX:0<s1.length:=FK.2 (ca _ (cb ig));have lU:0<r4.length:=FK.2 (ca _ (cb P5));obtain⟨bm,auo,Ua,rfl,P4,ah8⟩:=ajH.iH [] bX;obtain⟨a0,aun,T',rfl,ajz,ah7⟩:=ajG.iH [] lU;obtain⟨gF,eG,ai0⟩:=ah8 0 (by omega) (by omega);obtain⟨kI,kA,HG⟩:=ah7 0 (by omega) (by omega);have WY:s1[0]?=some gF:=eG;have zw:r4[0]?=some kI:=kA;refine c7 ?_;refine aj ?_;refine ab.block ?_;refine aj ?_;refine ab.draw rfl (by kernel_rfl) (bc:=[.val 0,.val 1,.val 2,.val 3,.val 4,.val 5,.val 6,.val 7,.val 8,.val 9,.val 10,.val 11,.val 12,.val 13]) (by kernel_rfl) ?_;refine cq ?_;refine al rfl V.aW ?_;refine al rfl V.aG ?_;refine al rfl V.aW ?_;refine' a8.val rfl rfl rfl rfl (gP rfl rfl ?aw (ho (eW rfl) ?ay)) ?_;case aw=>exact P4.sub (fun _ q=>by cases q)
              case ay=>first|rfl|assumption
              refine cq ?_;refine al rfl V.bt ?_;refine al rfl V.aW ?_;refine al rfl V.aG ?_;refine al rfl V.aW ?_;refine' a8.val rfl rfl rfl rfl (gP rfl rfl ?aw (ho (eW rfl) ?ay)) ?_;case aw=>exact ajz.sub (fun _ q=>by cases q)
              case ay=>first|rfl|assumption
              refine al rfl V.aZ ?_;refine a8.nil ?_;refine aj ?_;refine If (fun Nn=>?_) fun Nn=>?_
              ·refine rg ?_;refine I V.az ?_;refine ns ?_;refine ab.ret ?_;refine c5 ?_;refine⟨cD (Value.int .i64) ?_,rfl,by first|exact aH.le.refl _|exact ch⟩;symm;first
                 |exact qf fW
                 |(have c:=iv
                   exact sF fW gL (fun⟨es,q⟩=>by rw[q] at hm;simp only at hm;omega))
                 |exact qe fW gL ee mx
                 |(rw[qg fW gL ee mx]
                   unfold pV;first
                      |(have c:=fL
                        rw[an fL];first
                          |(rw[an (fun⟨s,aa,ae⟩=>ca s aa ae)]
                            first
                              |(have c:=Nn;rw[aE ⟨i -1,r4,s1,P5,by rw[show i -1+1=i by omega];exact ig,by rw[Ea zw,Ea WY];exact Nn⟩])
                              |(rw[an (fun⟨j,s,t,aa,ae,aF⟩=>bx j s t (by have:=(dY.1 ae).1;omega) aa ae aF)]))))
              ·refine aj ?_;refine ab.skip ?_;refine rg ?_;refine I V.ag ?_;refine I V.bt ?_;refine I V.az ?_;refine a6 ?_;refine cB (i+1) ?_;refine⟨by omega,fun j s t a' aa ae=>?_⟩;by_cases q:j+1<i;(exact bx j s t q aa ae);(obtain rfl:j=i -1:=by omega);(rw[P5] at aa;rw[show i -1+1=i by omega,ig] at ae;injection aa with aa;injection ae with ae;subst aa;subst ae;rw[Ea zw,Ea WY];omega)
             ·refine aj ?_;refine ab.exit ?_;refine rg ?_;refine I V.az ?_;refine ns ?_;refine ab.ret ?_;refine c5 ?_;refine⟨cD (Value.int .i64) ?_,rfl,by first|exact aH.le.refl _|exact ch⟩;symm;first
               |exact qf fW
               |(have c:=iv
                 exact sF fW gL (fun⟨es,q⟩=>by rw[q] at hm;simp only at hm;omega))
               |exact qe fW gL ee mx
               |(rw[qg fW gL ee mx]
                 unfold pV;first
                     |(have c:=fL
                       rw[an fL];first
                        |(rw[an (fun⟨s,aa,ae⟩=>ca s aa ae)]
                          first
                             |(rw[an (fun⟨j,s,t,aa,ae,aF⟩=>bx j s t (by have:=(dY.1 ae).1;omega) aa ae aF)]))))
end
section
variable {Q:dD Tryz.prog}{g0:Nat}{J:aH}
structure u9 (J:aH) (db dc ad cj:Nat) (g:bq) (aT:Option Addr) (aQ:Nat) (aK:Option Addr) (ci:Nat) (P:List Int):Prop where
 w:J db=some (aav g aT aQ aK ci (Fa dc g.ns.length) (Fa ad g.ns.length) (Fa cj g.ns.length),130)
 p:J dc=some (P.map (Value.int .i64),3)
theorem u9.mono{J af:aH}(hle:J.le af){db dc ad cj:Nat}{g:bq}{aT aK:Option Addr}{aQ ci:Nat}{P:List Int}(h:u9 J db dc ad cj g aT aQ aK ci P):u9 af db dc ad cj g aT aQ aK ci P:=⟨hle _ _ h.w,hle _ _ h.p⟩
theorem S3{σ:Type}{step:σ->Nat->Int->σ×Bool}{tp:Nat->σ->aN->Prop}{db dc ad cj:Nat}{g:bq}{aT aK:Option Addr}{aQ ci:Nat}{P:List Int}{zd:FuncId}{cap:Array Value}{p:Int}{dS:Nat}{r4:σ}{m0:aN}
 (aq:fH J g aT aQ aK ci)(hw:u9 J db dc ad cj g aT aQ aK ci P)(aB:Tree g P)(de:g.ns.length<=2000)(nO:∀x∈g.ns,x.ak.length<=60)
 (Ej:∀(c a:Nat) s ag,a<c->tp c s ag->tp a s ag)
 (ay:∀(c a:Nat) s ag k,a<c->c<g.ns.length->tp c s ag->Fn (bd Q g0) zd (.int .i64 (a:Int)::.int .i64 k::cap.toList) ag J (fun u m' af=>J=af/\u=.bool (step s a k).2/\tp a (step s a k).1 m'))
 (ib:dS<g.ns.length)(bw:tp dS r4 m0):
 Fn (bd Q g0) 98 [.pointer (some ⟨db,0,none⟩),.int .i64 (dS:Int),.int .i64 p,.func (.func zd) #[] cap] m0 J (fun u m' af=>J=af/\∃c,tp c (Ad step r4 (pa g P p dS)) m'):=by
 obtain⟨_,fE⟩:=aq.n.at;have fX:addrEq aK aK=true:=aq.i.addr;have zv:=hw.w;have atO:=hw.p;have dE:=aB.len;have ec:∀c:Nat,c<g.ns.length->∃a,P[c]?=some a/\nth (P.map (Value.int .i64)) (0+c*1)=some (.int .i64 a)/\-1<=a/\a<g.ns.length:=fun c aC=>by
  by_cases q:c=0
  ·subst q;exact⟨-1,aB.root,nm 0 aB.root,by omega,by omega⟩
  ·obtain⟨a,aa,ae,_⟩:=aB.up c (by omega) aC
   exact⟨a,aa,nm c aa,by omega,by omega⟩
 obtain⟨a0,ahp,jw,Hm,ahq⟩:=ec dS ib;refine Fn.cH (cM Tryz.func98) rfl rfl fun H=>?_;refine rg ?_;refine aM ?_;refine I V.aG ?_;refine I V.ag ?_;refine I V.aW ?_;refine I V.aG ?_;refine I V.az ?_;refine ns ?_;refine ab.block ?_;refine' ab.c0 (l':=[(1,.int .i64 ((dS):Int)),(8,.int .i64 (a0)),(0,_),(2,_),(3,_)]) ⟨?eK,?jC,rfl,rfl,rfl,trivial⟩ (bu _) ?_;case eK=>exact bP
 case jC=>exact bP
 refine aj ?_;refine' ab.dF (fun(bC:Nat×Int×σ×aN)=>match bC with|(c,at_,s1,m1)=>⟨[(1,.int .i64 (c:Int)),(8,.int .i64 at_)],m1,J,c<g.ns.length/\P[c]?=some at_/\-1<=at_/\at_<g.ns.length/\tp c s1 m1/\Ad step r4 (pa g P p dS)=Ad step s1 (pa g P p c),c⟩) ⟨dS,a0,r4,m0⟩ ?hs ?bA
 case hs=>exact⟨ib,ahp,Hm,ahq,bw,rfl⟩
 case bA=>
  rintro⟨c,at_,s1,m1⟩ hinv;try simp only at hinv
  obtain⟨aC,fK,Bo,vJ,uo,rP⟩:=hinv;refine rg ?_;refine I V.ag ?_;refine I V.aZ ?_;refine ns ?_;refine If (fun tx=>?_) fun tx=>?_
  ·obtain⟨a,lL,gK,y,ai,oh⟩:=aB.up c (by by_cases q:c=0;(subst q;rw[aB.root] at fK;injection fK with fK;omega);omega) aC;rw[fK] at lL;injection lL with lL;subst lL
   obtain⟨b,ap,Wm,kP,mb⟩:=ec a (by omega);obtain⟨bO,off,cells,bz,rfl,mC,j0⟩:=fE (by omega);obtain⟨iQ,cs,hd,gU,_,ei⟩:=j0 a (by omega) (by omega);obtain⟨b1,c1,b2,c2,b3,c3,rfl,eG,gM,gA⟩:=ei;rw[cx,ai] at hd;injection hd with hd;subst hd
   have Ov:=nO y (cb ai);refine c7 ?_;refine aj ?_;refine ab.block ?_;refine rg ?_;refine aM ?_;refine I V.aG ?_;refine I V.ag ?_;refine I V.aW ?_;refine I V.c9 ?_;refine' W.step rfl (.of (eT rfl rfl rfl (oB Q g0) rfl rfl rfl fun a9=>?_));refine dC ?_;refine bi ?_;refine I V.ba ?_;refine I V.aG ?_;refine I V.aZ ?_;refine I V.ag ?_;refine dr 38 (fun py=>?_) fun py=>?_
   ·refine aX V.ba ?_;refine aX V.aG ?_;refine aX V.ag ?_;refine aX V.aZ ?_;refine I V.aU ?_;refine I V.ag ?_;refine dr 44 (fun sG=>?_) fun sG=>?_
    ·refine aX V.ag ?_;refine aX V.ag ?_;refine aX V.ba ?_;refine aX V.aG ?_;refine aX V.ag ?_;refine' W.sH rfl rfl rfl (Exec.call rfl rfl rfl rfl rfl rfl rfl (bf:=[]) (bM:=_) (.refl _) trivial (Xb (gn:=[]) (eG.iH []) (by omega)) ?_);rintro v m' af hle ⟨rfl,rfl,rfl⟩;rw[k2];refine' W.sH rfl rfl rfl (Exec.call rfl rfl rfl rfl rfl rfl rfl (bf:=m1) (bM:=[_]) (List.perm_append_singleton _ _) trivial (ay c a s1 m1 _ (by omega) aC uo) ?_);rintro v m2 af hle ⟨rfl,rfl,rM⟩;refine aX V.ou ?_;refine I V.aU ?_;refine ns ?_;refine If (fun Di=>?_) fun Di=>?_
     ·refine aj ?_;refine ab.ret ?_;refine'⟨.inr rfl,rfl,_,_,.nil,(by first|exact q6 _ _|exact bu _),?_⟩;first
       |(have nT:=rM
         refine⟨rfl,a,?_⟩;rw[rP,B3 fK (by omega) ai ⟨py,sG⟩];show tp _ (if _=true then _ else _) _;rw[an (by simpa using Di)];exact rM)
       |(refine⟨rfl,c,?_⟩
         rw[rP,LD fK (by omega)];exact uo)
     ·refine aj ?_;refine ab.skip ?_;refine aj ?_;refine ab.draw rfl (by kernel_rfl) (bc:=[.val 0,.val 1,.val 2,.val 3,.val 4,.val 5,.val 6,.val 7,.val 8,.bR 9]) (by kernel_rfl) ?_;refine cq ?_;refine al rfl V.aG ?_;refine al rfl V.ag ?_;refine al rfl V.aW ?_;refine al rfl V.aG ?_;refine al rfl V.az ?_;refine FA rfl V.az ?_;refine a8.nil ?_;refine cB ⟨a,b,(by first|(have nT:=rM;exact(step s1 a (iD (c:Int) y.ak 0)).1)|exact s1),_⟩ ?_ (hm:=(by first|exact q6 _ _|exact .cons _ (.refl _)));first|(have nT:=rM;exact⟨by omega,ap,kP,mb,rM,by rw[rP,B3 fK (by omega) ai ⟨py,sG⟩];show(if _=true then _ else _)=_;rw[aE (by simpa using Di)]⟩)|(have nT:=sG;exact⟨by omega,ap,kP,mb,Ej c a _ _ (by omega) uo,by rw[rP,zH fK (by omega) ai (fun q=>sG q.2)]⟩)|exact⟨by omega,ap,kP,mb,Ej c a _ _ (by omega) uo,by rw[rP,zH fK (by omega) ai (fun q=>py q.1)]⟩
    ·refine ah ?_;refine ah ?_;refine ah ?_;refine ah ?_;refine ah ?_;refine W.oU rfl rfl rfl rfl rfl ?_;refine W.oU rfl rfl rfl rfl rfl ?_;refine ah ?_;refine I V.aU ?_;refine ns ?_;refine ab.w' rfl ?_;refine c7 ?_;refine aj ?_;refine ab.draw rfl (by kernel_rfl) (bc:=[.val 0,.val 1,.val 2,.val 3,.val 4,.val 5,.val 6,.val 7,.val 8,.bR 9]) (by kernel_rfl) ?_;refine cq ?_;refine al rfl V.aG ?_;refine al rfl V.ag ?_;refine al rfl V.aW ?_;refine al rfl V.aG ?_;refine al rfl V.az ?_;refine FA rfl V.az ?_;refine a8.nil ?_;refine cB ⟨a,b,(by first|(have nT:=rM;exact(step s1 a (iD (c:Int) y.ak 0)).1)|exact s1),_⟩ ?_ (hm:=(by first|exact q6 _ _|exact .cons _ (.refl _)));first|(have nT:=rM;exact⟨by omega,ap,kP,mb,rM,by rw[rP,B3 fK (by omega) ai ⟨py,sG⟩];show(if _=true then _ else _)=_;rw[aE (by simpa using Di)]⟩)|(have nT:=sG;exact⟨by omega,ap,kP,mb,Ej c a _ _ (by omega) uo,by rw[rP,zH fK (by omega) ai (fun q=>sG q.2)]⟩)|exact⟨by omega,ap,kP,mb,Ej c a _ _ (by omega) uo,by rw[rP,zH fK (by omega) ai (fun q=>py q.1)]⟩
   ·refine ah ?_;refine ah ?_;refine ah ?_;refine ah ?_;refine I V.aU ?_;refine I V.ag ?_;refine ah ?_;refine ah ?_;refine ah ?_;refine ah ?_;refine ah ?_;refine W.oU rfl rfl rfl rfl rfl ?_;refine W.oU rfl rfl rfl rfl rfl ?_;refine ah ?_;refine I V.aU ?_;refine ns ?_;refine ab.w' rfl ?_;refine c7 ?_;refine aj ?_;refine ab.draw rfl (by kernel_rfl) (bc:=[.val 0,.val 1,.val 2,.val 3,.val 4,.val 5,.val 6,.val 7,.val 8,.bR 9]) (by kernel_rfl) ?_;refine cq ?_;refine al rfl V.aG ?_;refine al rfl V.ag ?_;refine al rfl V.aW ?_;refine al rfl V.aG ?_;refine al rfl V.az ?_;refine FA rfl V.az ?_;refine a8.nil ?_;refine cB ⟨a,b,(by first|(have nT:=rM;exact(step s1 a (iD (c:Int) y.ak 0)).1)|exact s1),_⟩ ?_ (hm:=(by first|exact q6 _ _|exact .cons _ (.refl _)));first|(have nT:=rM;exact⟨by omega,ap,kP,mb,rM,by rw[rP,B3 fK (by omega) ai ⟨py,sG⟩];show(if _=true then _ else _)=_;rw[aE (by simpa using Di)]⟩)|(have nT:=sG;exact⟨by omega,ap,kP,mb,Ej c a _ _ (by omega) uo,by rw[rP,zH fK (by omega) ai (fun q=>sG q.2)]⟩)|exact⟨by omega,ap,kP,mb,Ej c a _ _ (by omega) uo,by rw[rP,zH fK (by omega) ai (fun q=>py q.1)]⟩
  ·refine aj ?_;refine ab.exit ?_;refine'⟨.inl rfl,rfl,_,_,.nil,(by first|exact q6 _ _|exact bu _),?_⟩;first
    |(have nT:=rM
      refine⟨rfl,a,?_⟩;rw[rP,B3 fK (by omega) ai ⟨py,sG⟩];show tp _ (if _=true then _ else _) _;rw[an (by simpa using Di)];exact rM)
    |(refine⟨rfl,c,?_⟩
      rw[rP,LD fK (by omega)];exact uo)
end
end
end Go.Opn

/- A part of the proof of ResumeBack. -/
import Derived.Test.YtiemfjdacfioeaaGreatDoorCba
import Derived.Test.YtiemfjdacfioeaaGreatDoorCay
set_option maxRecDepth 100000
set_option maxHeartbeats 4000000
set_option linter.unusedVariables false
set_option linter.unusedSimpArgs false
namespace Go.Opn
noncomputable section
open Go.Cre Go.RowKit Go.Proofs
theorem DU{s:List Int}{x:Int}(h:s[0]?=some x):fc s=x:=by
 cases s with
 |nil=>cases h
 |cons y r=>simp at h;subst h;rfl
section
variable {Q:dI Tryz.prog}{g0:Nat}{J:aI}
theorem am6{g:bz}{aT aL:Option Addr}{aQ ci:Nat}(aq:fG J g aT aQ aL ci):
 Fn (bb Q g0) 53 [hc g aT aQ aL ci] [] J (tg (.int .i64 (h6 g)) J):=by
 obtain⟨_,fD⟩:=aq.n.at;obtain⟨_,kt⟩:=aq.i.at;have fW:addrEq aL aL=true:=aq.i.addr;have gn:addrEq aT aT=true:=aq.n.addr;refine Fn.cH (cQ Tryz.func53) rfl rfl fun H=>?_;refine rg ?_;refine dJ fun bo=>?_;refine I V.aA ?_;refine a8 ?_;refine fT [1] ?_;refine aj ?_;refine' ab.ht 0 [(36,.bool (decide ((g.pl<1\/4<g.pl\/g.ns.length<1\/2000<g.ns.length\/200<g.is.length))))] ?mT ?n1;case mT=>
  refine ab.region ?_;refine I V.bc ?_;refine I V.aF ?_;refine I V.a1 ?_;refine I V.ah ?_;refine dq 14 (fun n2=>?_) fun n2=>?_
  ·refine al ?_;refine al ?_;refine al ?_;refine I V.aV ?_;refine I V.ah ?_;refine al ?_;refine al ?_;refine al ?_;refine al ?_;refine I V.aV ?_;refine I V.ah ?_;refine al ?_;refine al ?_;refine al ?_;refine al ?_;refine I V.aV ?_;refine I V.ah ?_;refine al ?_;refine al ?_;refine al ?_;refine al ?_;refine I V.aV ?_;refine a8 ?_;exact ce
  ·refine aW V.bc ?_;refine aW V.aF ?_;refine aW V.a1 ?_;refine I V.aV ?_;refine I V.ah ?_;refine dq 19 (fun xa=>?_) fun xa=>?_
   ·refine al ?_;refine al ?_;refine al ?_;refine al ?_;refine I V.aV ?_;refine I V.ah ?_;refine al ?_;refine al ?_;refine al ?_;refine al ?_;refine I V.aV ?_;refine I V.ah ?_;refine al ?_;refine al ?_;refine al ?_;refine al ?_;refine I V.aV ?_;refine a8 ?_;exact ce
   ·refine aW V.bc ?_;refine aW V.aF ?_;refine aW V.bP ?_;refine aW V.a1 ?_;refine I V.aV ?_;refine I V.ah ?_;refine dq 25 (fun A1=>?_) fun A1=>?_
    ·refine al ?_;refine al ?_;refine al ?_;refine al ?_;refine I V.aV ?_;refine I V.ah ?_;refine al ?_;refine al ?_;refine al ?_;refine al ?_;refine I V.aV ?_;refine a8 ?_;exact ce
    ·refine aW V.bc ?_;refine aW V.aF ?_;refine aW V.bP ?_;refine aW V.a1 ?_;refine I V.aV ?_;refine I V.ah ?_;refine dq 31 (fun A2=>?_) fun A2=>?_
     ·refine al ?_;refine al ?_;refine al ?_;refine al ?_;refine I V.aV ?_;refine a8 ?_;exact ce
     ·refine aW V.bc ?_;refine aW V.aF ?_;refine aW V.bP ?_;refine aW V.a1 ?_;refine I V.aV ?_;refine a8 ?_;exact ce
 case n1=>
  refine aj ?_;refine If (fun fV=>?_) fun fV=>?_
  ·refine rg ?_;refine I V.aA ?_;refine ns ?_;refine ab.ret ?_;refine c' ?_;refine⟨cC (Value.int .i64) ?_,rfl,by first|exact aI.le.refl _|exact ck⟩;symm;first
    |exact p' fV
    |exact p9 fV gL ed mi
    |(rw[qa fV gL ed mi]
      unfold pK;first
          |(have c:=fK
            rw[ap fK];first
             |(rw[ap (fun⟨s,aa,ae⟩=>cc s aa ae)]
               first
                  |(rw[ap (fun⟨j,s,t,aa,ae,aG⟩=>bB j s t (by have:=(dX.1 ae).1;omega) aa ae aG)]))))
  ·refine aj ?_;refine ab.skip ?_;refine rg ?_;refine I V.aA ?_;refine ns ?_;refine ab.block ?_;refine' ab.c2 (l':=[(3,.int .i64 ((0):Int)),(1,_)]) ⟨?kE,rfl,trivial⟩ (bA _) ?_;case kE=>exact bS
   refine aj ?_;refine' ab.dF (fun(i:Nat)=>⟨[(3,.int .i64 (i:Int))],[(bo,.row (iq g aT aQ aL ci) 27)],J,i<=g.ns.length/\∀x∈g.ns.take i,ev g x=0,g.ns.length -i⟩) (0) ?af ?bE;case af=>exact⟨cB _,fun x U=>by cases U⟩
   case bE=>
    rintro i hinv;try simp only at hinv
    obtain⟨ao,bB⟩:=hinv;refine rg ?_;refine aM ?_;refine I V.aF ?_;refine I V.bP ?_;refine I V.a1 ?_;refine ns ?_;refine If (fun MZ=>?_) fun MZ=>?_
    ·obtain⟨a,off,cells,bG,rfl,ms,ec⟩:=fD (by omega);obtain⟨x,cs,U,gV,_,ey⟩:=ec i (by omega) (by omega);obtain⟨bm,bt,bl,bw,b8,dh,rfl,eo,ga,gz⟩:=ey;have bd:addrEq bm bm=true:=by obtain⟨e,h⟩:=eo;exact h.addr
     have a6:addrEq bl bl=true:=by obtain⟨e,h⟩:=ga;exact h.addr
     have b9:addrEq b8 b8=true:=by obtain⟨e,h⟩:=gz;exact h.addr
     rw[cy] at U;refine c5 ?_;refine aj ?_;refine ab.block ?_;refine aj ?_;refine ab.draw rfl (by kernel_rfl) (bf:=[.val 0,.val 1,.val 2,.val 3,.val 4,.val 5,.bV 6,.val 7]) (by kernel_rfl) ?_;refine an rfl V.c8 ?_;refine an rfl V.bc ?_;refine an rfl V.aF ?_;refine an rfl V.ah ?_;refine an rfl V.aX ?_;refine an rfl V.c8 ?_;refine dl rfl (G:=am9 ga gz (by omega) fW gn bd) (h:=?_);rintro v m' ag hle ⟨rfl,rfl,rfl⟩;refine an rfl V.aA ?_;refine a7.nil ?_;refine rg ?_;refine I V.ah ?_;refine I V.a1 ?_;refine ns ?_;refine If (fun nZ=>?_) fun nZ=>?_
     ·refine rg ?_;refine aM ?_;refine ns ?_;refine ab.ret ?_;refine c' ?_;refine⟨cC (Value.int .i64) ?_,rfl,by first|exact aI.le.refl _|exact ck⟩;symm;first
        |exact p' fV
        |(have c:=nZ;exact(DE fV (by rw[sP bB U nZ];exact nZ)).trans (sP bB U nZ))
        |exact p9 fV gL ed mi
        |(rw[qa fV gL ed mi]
          unfold pK;first
             |(have c:=fK
               rw[ap fK];first
                 |(rw[ap (fun⟨s,aa,ae⟩=>cc s aa ae)]
                   first
                     |(rw[ap (fun⟨j,s,t,aa,ae,aG⟩=>bB j s t (by have:=(dX.1 ae).1;omega) aa ae aG)]))))
     ·refine aj ?_;refine ab.skip ?_;refine rg ?_;refine I V.ah ?_;refine I V.bx ?_;refine I V.aA ?_;refine a8 ?_;refine cA (i+1) ?_;exact⟨by omega,sY bB U (gP.1 nZ)⟩
    ·have fy:∀x∈g.ns,ev g x=0:=by
        rw[et (by omega)] at bB;exact bB
     have gL:=Xy fy;have nJ:∀x∈g.ns,x.ak.length<=60:=fun x U=>(EE (fy x U) (by omega)).1;refine aj ?_;refine ab.exit ?_;refine rg ?_;refine' W.step rfl (.of (e4 rfl rfl rfl (aag Q g0) rfl rfl rfl fun a5=>?_));refine dN ?_;refine ns ?_;refine ab.draw rfl (by kernel_rfl) (bf:=[.val 0,.val 2,.val 3,.val 4,.bV 1,.val 5,.cF [4,3,2]]) (by kernel_rfl) ?_;refine an rfl V.c8 ?_;refine an rfl V.bc ?_;refine an rfl V.aF ?_;refine an rfl V.bP ?_;refine' a7.call rfl rfl rfl rfl rfl rfl rfl rfl rfl rfl (bh:=[sg a5 0]) (bW:=[_]) (.refl _) trivial (ang aq (by omega) nJ (g.ns.length+1) 0 (-1) 0 0 (by omega) (cB _) (by omega) (by omega)) ?_;rintro v m' ag hle ⟨rfl,d2,ei,rfl,rfl,hm⟩;refine an rfl V.a1 ?_;refine a7.cF fC ?_;refine a7.nil ?_;refine aj ?_;refine If (fun ik=>?_) fun ik=>?_
     ·refine rg ?_;refine I V.aA ?_;refine ns ?_;refine ab.ret ?_;refine c' ?_;refine⟨cC (Value.int .i64) ?_,rfl,by first|exact aI.le.refl _|exact ck⟩;symm;first
        |exact p' fV
        |(have c:=ik
          exact so fV gL (fun⟨es,q⟩=>by rw[q] at hm;simp only at hm;omega))
        |exact p9 fV gL ed mi
        |(rw[qa fV gL ed mi]
          unfold pK;first
             |(have c:=fK
               rw[ap fK];first
                 |(rw[ap (fun⟨s,aa,ae⟩=>cc s aa ae)]
                   first
                     |(rw[ap (fun⟨j,s,t,aa,ae,aG⟩=>bB j s t (by have:=(dX.1 ae).1;omega) aa ae aG)]))))
     ·obtain⟨es,ed,xm⟩:∃es,dP g.ns (g.ns.length+1) (-1) 0 0=some (g.ns.length,es)/\d2=q7 es:=by
        cases ed:dP g.ns (g.ns.length+1) (-1) 0 0 with
        |none=>rw[ed] at hm;simp only at hm;omega
        |some p=>obtain⟨b0,aN⟩:=p;rw[ed] at hm;simp only at hm;exact⟨aN,by rw[show b0=g.ns.length by omega],hm.2⟩
      subst xm;refine nf ?_;refine I V.aF ?_;refine I V.a1 ?_;refine ns ?_;refine If (fun mi=>?_) fun mi=>?_
      ·
        refine rg ?_;refine I V.aA ?_;refine ns ?_;refine ab.ret ?_;refine c' ?_;refine⟨cC (Value.int .i64) ?_,rfl,by first|exact aI.le.refl _|exact ck⟩;symm;first
         |exact p' fV
         |(have c:=ik
           exact so fV gL (fun⟨es,q⟩=>by rw[q] at hm;simp only at hm;omega))
         |exact p9 fV gL ed mi
         |(rw[qa fV gL ed mi]
           unfold pK;first
               |(have c:=fK
                 rw[ap fK];first
                  |(rw[ap (fun⟨s,aa,ae⟩=>cc s aa ae)]
                    first
                       |(rw[ap (fun⟨j,s,t,aa,ae,aG⟩=>bB j s t (by have:=(dX.1 ae).1;omega) aa ae aG)]))))
      ·
        refine aj ?_;refine ab.skip ?_;refine rg ?_;refine I V.aA ?_;refine ns ?_;refine ab.block ?_;refine' ab.c2 (l':=[(6,.int .i64 ((0):Int)),(1,_)]) ⟨?nn,rfl,trivial⟩ (bA _) ?_;case nn=>exact bS
        refine aj ?_;refine' ab.dF (fun(i:Nat)=>⟨[(6,.int .i64 (i:Int))],[sg a5 (q7 es),(bo,.row (iq g aT aQ aL ci) 27)],J,i<=g.ns.length/\∀x∈g.ns.take i,x.k=2->g.is[x.i.toNat]?=some (x.p,(x.ak.length:Int)),g.ns.length -i⟩) (0) ?af ?bE;case af=>exact⟨cB _,fun x U=>by cases U⟩
        case bE=>
         rintro i hinv;try simp only at hinv
         obtain⟨ao,bB⟩:=hinv;refine rg ?_;refine aM ?_;refine I V.aF ?_;refine I V.bP ?_;refine I V.a1 ?_;refine ns ?_;refine If (fun C8=>?_) fun C8=>?_
         ·obtain⟨a,off,cells,bG,rfl,ms,ec⟩:=fD (by omega);obtain⟨x,cs,U,gV,_,ey⟩:=ec i (by omega) (by omega);obtain⟨bm,bt,bl,bw,b8,dh,rfl,eo,ga,gz⟩:=ey;have bd:addrEq bm bm=true:=by obtain⟨e,h⟩:=eo;exact h.addr
          rw[cy] at U;have e0:=fy x (cd U);refine c5 ?_;refine aj ?_;refine ab.block ?_;refine rg ?_;refine I V.bc ?_;refine I V.aF ?_;refine I V.ah ?_;refine I V.aX ?_;refine I V.c8 ?_;refine' W.step rfl (.of (e4 rfl rfl rfl (om Q g0) rfl rfl rfl fun cX=>?_));refine dN ?_;refine ns ?_;refine ab.Dp [] rfl (by kernel_rfl) (bf:=[.val 0,.val 1,.val 2,.val 3,.val 4,.val 5,.val 6,.val 7,.val 8,.val 9,.val 10,.val 11,.val 12,.val 13,.val 14,.val 15,.val 16,.val 17,.val 18,.val 19,.val 20,.val 21,.val 22,.val 23,.val 24,.val 25,.val 26,.val 27]) (by kernel_rfl) ?_;refine dp rfl V.bc ?_;refine dp rfl V.aF ?_;refine dp rfl V.a1 ?_;refine dp rfl V.ah ?_;refine th 77 (fun A0=>?_) fun A0=>?_
          ·have ua:=Im e0 (by simpa using A0);obtain⟨ha,XM,ace,ad0,rfl,mu,OV⟩:=kt (by omega);obtain⟨y,cs,ai,tU,l1,rfl⟩:=OV x.i (by omega) (by omega);have Hg:=l1 0 _ (by decide) rfl;have mZ:=l1 1 _ (by decide) rfl;refine dj rfl V.bc ?_;refine dj rfl V.aF ?_;refine dj rfl V.bc ?_;refine dj rfl V.aF ?_;refine dj rfl V.aX ?_;refine dj rfl V.bc ?_;refine dj rfl V.aF ?_;refine dj rfl V.bc ?_;refine dj rfl V.aF ?_;refine dj rfl V.a1 ?_;refine dj rfl V.ah ?_;refine th 88 (fun AZ=>?_) fun AZ=>?_
           ·refine cx rfl ?_;refine cx rfl ?_;refine cx rfl ?_;refine cx rfl ?_;refine cx rfl ?_;refine cx rfl ?_;refine cx rfl ?_;refine cx rfl ?_;refine cx rfl ?_;refine cx rfl ?_;refine cx rfl ?_;refine dj rfl V.aV ?_;refine dp rfl V.aV ?_;refine dx.nil ?_;refine aj ?_;refine ab.Nd rfl ?_;refine rg ?_;refine I V.aA ?_;refine ns ?_;refine ab.ret ?_;refine c' ?_;refine⟨cC (Value.int .i64) ?_,rfl,by first|exact aI.le.refl _|exact ck⟩;symm;first
             |exact p' fV
             |(have c:=ik
               exact so fV gL (fun⟨es,q⟩=>by rw[q] at hm;simp only at hm;omega))
             |exact p9 fV gL ed mi
             |(rw[qa fV gL ed mi]
               unfold pK;first
                   |(have c:=AZ
                     rw[aE ⟨x,cd U,by simpa using A0,fun q=>by rw[ai] at q;injection q with q;rw[q] at AZ;exact AZ rfl⟩])
                   |(have c:=fK
                     rw[ap fK];first
                      |(rw[ap (fun⟨s,aa,ae⟩=>cc s aa ae)]
                        first
                           |(rw[ap (fun⟨j,s,t,aa,ae,aG⟩=>bB j s t (by have:=(dX.1 ae).1;omega) aa ae aG)]))))
           ·refine dj rfl V.bc ?_;refine dj rfl V.aF ?_;refine dj rfl V.bc ?_;refine dj rfl V.aF ?_;refine dj rfl V.aX ?_;refine dj rfl V.bc ?_;refine dj rfl V.aF ?_;refine dj rfl V.bc ?_;refine dj rfl V.aF ?_;refine dj rfl V.bP ?_;refine dj rfl V.a1 ?_;refine dj rfl V.aV ?_;refine dp rfl V.aV ?_;refine dx.nil ?_;refine aj ?_;refine If (fun JP=>?_) fun JP=>?_
            ·refine rg ?_;refine I V.aA ?_;refine ns ?_;refine ab.ret ?_;refine c' ?_;refine⟨cC (Value.int .i64) ?_,rfl,by first|exact aI.le.refl _|exact ck⟩;symm;first
              |exact p' fV
              |(have c:=ik
                exact so fV gL (fun⟨es,q⟩=>by rw[q] at hm;simp only at hm;omega))
              |exact p9 fV gL ed mi
              |(rw[qa fV gL ed mi]
                unfold pK;first
                    |(have c:=JP
                      rw[aE ⟨x,cd U,by simpa using A0,fun q=>by rw[ai] at q;injection q with q;rw[q] at JP;exact JP rfl⟩])
                    |(have c:=AZ
                      rw[aE ⟨x,cd U,by simpa using A0,fun q=>by rw[ai] at q;injection q with q;rw[q] at AZ;exact AZ rfl⟩])
                    |(have c:=fK
                      rw[ap fK];first
                       |(rw[ap (fun⟨s,aa,ae⟩=>cc s aa ae)]
                         first
                            |(rw[ap (fun⟨j,s,t,aa,ae,aG⟩=>bB j s t (by have:=(dX.1 ae).1;omega) aa ae aG)]))))
            ·refine aj ?_;refine ab.skip ?_;refine rg ?_;refine I V.ah ?_;refine I V.bx ?_;refine I V.aA ?_;refine a8 ?_;refine cA (i+1) ?_ (hm:=.cons _ (.refl _));refine⟨by omega,sY bB U fun aU=>?_⟩;first|exact absurd aU (by simpa using A0)|(rw[ai];have aN:y.1=x.p:=(by omega);have bn:y.2=(x.ak.length:Int):=(by omega);rw[<-aN,<-bn])
          ·refine cx rfl ?_;refine cx rfl ?_;refine cx rfl ?_;refine cx rfl ?_;refine cx rfl ?_;refine cx rfl ?_;refine cx rfl ?_;refine cx rfl ?_;refine cx rfl ?_;refine cx rfl ?_;refine cx rfl ?_;refine dx.oj rfl rfl rfl rfl rfl ?_;refine dx.oj rfl rfl rfl rfl rfl ?_;refine dx.oj rfl rfl rfl rfl rfl ?_;refine dx.oj rfl rfl rfl rfl rfl ?_;refine dx.oj rfl rfl rfl rfl rfl ?_;refine dx.oj rfl rfl rfl rfl rfl ?_;refine dx.oj rfl rfl rfl rfl rfl ?_;refine dx.oj rfl rfl rfl rfl rfl ?_;refine dx.oj rfl rfl rfl rfl rfl ?_;refine dx.oj rfl rfl rfl rfl rfl ?_;refine dx.oj rfl rfl rfl rfl rfl ?_;refine cx rfl ?_;refine dp rfl V.aV ?_;refine dx.nil ?_;refine aj ?_;refine ab.wS rfl ?_;refine nf ?_;refine I V.ah ?_;refine I V.bx ?_;refine I V.aA ?_;refine a8 ?_;refine cA (i+1) ?_ (hm:=.cons _ (.refl _));refine⟨by omega,sY bB U fun aU=>?_⟩;first|exact absurd aU (by simpa using A0)|(rw[ai];have aN:y.1=x.p:=(by omega);have bn:y.2=(x.ak.length:Int):=(by omega);rw[<-aN,<-bn])
         ·have fK:¬∃x∈g.ns,x.k=2/\g.is[x.i.toNat]?≠some (x.p,(x.ak.length:Int)):=by
           rintro⟨x,aa,ae,aG⟩;rw[et (by omega)] at bB;exact aG (bB x aa ae)
          refine aj ?_;refine ab.exit ?_;refine rg ?_;refine I V.c8 ?_;refine cl (G:=Rb aq (by omega) (by omega) fy) (h:=?_);rintro v m' dQ ck ⟨C1,mj,rfl,rfl,_,jO⟩;refine I V.aA ?_;refine a8 ?_;obtain⟨_,lY⟩:=jO.at;have k':(gC g).length<=200:=by rw[uG];omega
          refine rg ?_;refine I V.aA ?_;refine ns ?_;refine ab.block ?_;refine' ab.c2 (l':=[(9,.int .i64 ((0):Int)),(8,_)]) ⟨?pS,rfl,trivial⟩ (bA _) ?_;case pS=>exact bS
          refine aj ?_;refine' ab.dF (fun(i:Nat)=>⟨[(9,.int .i64 (i:Int))],[sg a5 (q7 es),(bo,.row (iq g aT aQ aL ci) 27)],dQ,i<=(gC g).length/\∀s∈(gC g).take i,s≠[],(gC g).length -i⟩) (0) ?af ?bE;case af=>exact⟨cB _,fun x U=>by cases U⟩
          case bE=>
           rintro i hinv;try simp only at hinv
           obtain⟨ao,bB⟩:=hinv;refine rg ?_;refine aM ?_;refine I V.a1 ?_;refine ns ?_;refine If (fun abH=>?_) fun abH=>?_
           ·obtain⟨aba,Lp,acf,mn,rfl,n5,KA⟩:=lY (by omega);obtain⟨s,cs,af,gV,ir,b,c,rfl,Ec⟩:=KA i (by omega) (by omega);have Hg:=ir 0 _ (by decide) rfl;rw[cy] at af;refine c5 ?_;refine aj ?_;refine ab.block ?_;refine rg ?_;refine aM ?_;refine I V.aX ?_;refine I V.aF ?_;refine I V.bP ?_;refine I V.a1 ?_;refine ns ?_;refine If (fun MV=>?_) fun MV=>?_
            ·refine rg ?_;refine I V.aA ?_;refine ns ?_;refine ab.ret ?_;refine c' ?_;refine⟨cC (Value.int .i64) ?_,rfl,by first|exact aI.le.refl _|exact ck⟩;symm;first
               |exact p' fV
               |(have c:=ik
                 exact so fV gL (fun⟨es,q⟩=>by rw[q] at hm;simp only at hm;omega))
               |exact p9 fV gL ed mi
               |(rw[qa fV gL ed mi]
                 unfold pK;first
                    |(have c:=fK
                      rw[ap fK];first
                        |(have c:=MV;rw[aE ⟨s,cd af,s9.1 (by omega)⟩])
                        |(rw[ap (fun⟨s,aa,ae⟩=>cc s aa ae)]
                          first
                            |(rw[ap (fun⟨j,s,t,aa,ae,aG⟩=>bB j s t (by have:=(dX.1 ae).1;omega) aa ae aG)]))))
            ·refine aj ?_;refine ab.skip ?_;refine rg ?_;refine I V.ah ?_;refine I V.bx ?_;refine I V.aA ?_;refine a8 ?_;refine cA (i+1) ?_;exact⟨by omega,sY bB af (fun q=>by subst q;exact MV rfl)⟩
           ·have cc:∀s∈gC g,s≠[]:=by
             rw[et (by omega)] at bB;exact bB
            refine aj ?_;refine ab.exit ?_;refine rg ?_;refine I V.aA ?_;refine ns ?_;refine ab.block ?_;refine' ab.c2 (l':=[(10,.int .i64 ((1):Int)),(8,_)]) ⟨?pQ,rfl,trivial⟩ (bA _) ?_;case pQ=>exact bS
            refine aj ?_;refine' ab.dF (fun(i:Nat)=>⟨[(10,.int .i64 (i:Int))],[sg a5 (q7 es),(bo,.row (iq g aT aQ aL ci) 27)],dQ,1<=i/\(∀(j:Nat) (s t:List Int),j+1<i->(gC g)[j]?=some s->(gC g)[j+1]?=some t->¬fc t<fc s),(gC g).length -i⟩) (1) ?af ?bE;case af=>exact⟨cZ _,fun j s t h=>by omega⟩
            case bE=>
             rintro i hinv;try simp only at hinv
             obtain⟨ao,bB⟩:=hinv;refine rg ?_;refine aM ?_;refine I V.a1 ?_;refine ns ?_;refine If (fun abJ=>?_) fun abJ=>?_
             ·obtain⟨aba,Lp,acf,mn,rfl,n5,KA⟩:=lY (by omega);obtain⟨s1,gi,hW,ar8,ahR,bm,bt,rfl,ai1⟩:=KA i (by omega) (by omega);obtain⟨rR,je,BA,ar7,sC,CZ,dU,rfl,ai0⟩:=KA ((i:Int) -1) (by omega) (by omega);have mZ:=ahR 0 _ (by decide) rfl;have Hg:=sC 0 _ (by decide) rfl;rw[cy] at hW;have PD:(gC g)[i -1]?=some rR:=by rw[<-BA];congr 1;omega
              have b0:0<s1.length:=Fw.2 (cc _ (cd hW));have lH:0<rR.length:=Fw.2 (cc _ (cd PD));obtain⟨bo,atu,TH,rfl,PC,ahp⟩:=ai1.iB [] b0;obtain⟨a0,att,TG,rfl,aiT,aho⟩:=ai0.iB [] lH;obtain⟨hj,eo,aij⟩:=ahp 0 (by omega) (by omega);obtain⟨kG,ky,Hq⟩:=aho 0 (by omega) (by omega);have Wx:s1[0]?=some hj:=eo;have zo:rR[0]?=some kG:=ky;refine c5 ?_;refine aj ?_;refine ab.block ?_;refine aj ?_;refine ab.draw rfl (by kernel_rfl) (bf:=[.val 0,.val 1,.val 2,.val 3,.val 4,.val 5,.val 6,.val 7,.val 8,.val 9,.val 10,.val 11,.val 12,.val 13]) (by kernel_rfl) ?_;refine cq ?_;refine an rfl V.aX ?_;refine an rfl V.aF ?_;refine an rfl V.aX ?_;refine' a7.val rfl rfl rfl rfl (gY rfl rfl ?ay (hp (eV rfl) ?az)) ?_;case ay=>exact PC.sub (fun _ q=>by cases q)
              case az=>first|rfl|assumption
              refine cq ?_;refine an rfl V.bx ?_;refine an rfl V.aX ?_;refine an rfl V.aF ?_;refine an rfl V.aX ?_;refine' a7.val rfl rfl rfl rfl (gY rfl rfl ?ay (hp (eV rfl) ?az)) ?_;case ay=>exact aiT.sub (fun _ q=>by cases q)
              case az=>first|rfl|assumption
              refine an rfl V.a1 ?_;refine a7.nil ?_;refine aj ?_;refine If (fun MW=>?_) fun MW=>?_
              ·refine rg ?_;refine I V.aA ?_;refine ns ?_;refine ab.ret ?_;refine c' ?_;refine⟨cC (Value.int .i64) ?_,rfl,by first|exact aI.le.refl _|exact ck⟩;symm;first
                 |exact p' fV
                 |(have c:=ik
                   exact so fV gL (fun⟨es,q⟩=>by rw[q] at hm;simp only at hm;omega))
                 |exact p9 fV gL ed mi
                 |(rw[qa fV gL ed mi]
                   unfold pK;first
                      |(have c:=fK
                        rw[ap fK];first
                          |(rw[ap (fun⟨s,aa,ae⟩=>cc s aa ae)]
                            first
                              |(have c:=MW;rw[aE ⟨i -1,rR,s1,PD,by rw[show i -1+1=i by omega];exact hW,by rw[DU zo,DU Wx];exact MW⟩])
                              |(rw[ap (fun⟨j,s,t,aa,ae,aG⟩=>bB j s t (by have:=(dX.1 ae).1;omega) aa ae aG)]))))
              ·refine aj ?_;refine ab.skip ?_;refine rg ?_;refine I V.ah ?_;refine I V.bx ?_;refine I V.aA ?_;refine a8 ?_;refine cA (i+1) ?_;refine⟨by omega,fun j s t ba aa ae=>?_⟩;by_cases q:j+1<i;(exact bB j s t q aa ae);(obtain rfl:j=i -1:=by omega);(rw[PD] at aa;rw[show i -1+1=i by omega,hW] at ae;injection aa with aa;injection ae with ae;subst aa;subst ae;rw[DU zo,DU Wx];omega)
             ·refine aj ?_;refine ab.exit ?_;refine rg ?_;refine I V.aA ?_;refine ns ?_;refine ab.ret ?_;refine c' ?_;refine⟨cC (Value.int .i64) ?_,rfl,by first|exact aI.le.refl _|exact ck⟩;symm;first
               |exact p' fV
               |(have c:=ik
                 exact so fV gL (fun⟨es,q⟩=>by rw[q] at hm;simp only at hm;omega))
               |exact p9 fV gL ed mi
               |(rw[qa fV gL ed mi]
                 unfold pK;first
                     |(have c:=fK
                       rw[ap fK];first
                        |(rw[ap (fun⟨s,aa,ae⟩=>cc s aa ae)]
                          first
                             |(rw[ap (fun⟨j,s,t,aa,ae,aG⟩=>bB j s t (by have:=(dX.1 ae).1;omega) aa ae aG)]))))
end
end
end Go.Opn
namespace Go.Opn
noncomputable section
structure Ao (ns:List cS) (p:Int) (lH b0:Nat) (cs:List Int) (es:List gq):Prop where
 le:lH<=b0
 len:es.length=b0 -lH
 kids:∀c∈cs,(lH:Int)<=c/\c<b0/\∃e:gq,es[(c -lH).toNat]?=some e/\e.1=p
 SZ:cs.Pairwise (·<·)
 each:∀j:Nat,lH<=j->j<b0->∃(x:cS) (e:gq),ns[j]?=some x/\es[j -lH]?=some e/\x.ak.Pairwise (·<·)/\
  (∀c∈x.ak,(j:Int)<c/\c<b0/\∃bG:gq,es[(c -lH).toNat]?=some bG/\bG.1=(j:Int))/\
  (((j:Int)∈cs/\e.1=p)\/((lH:Int)<=e.1/\e.1<(j:Int)/\∃y:cS,ns[e.1.toNat]?=some y/\(j:Int)∈y.ak))
theorem NT{α:Type}{a b:List α}{i:Nat}{e:α}(h:a[i]?=some e):(a++b)[i]?=some e:=by
 rw[lq (dX.1 h).1];exact h
theorem NU{α:Type}{a b:List α}{i k:Nat}{e:α}(h:b[k]?=some e)(ao:i=a.length+k):(a++b)[i]?=some e:=by
 subst ao;rw[qT (by omega),show a.length+k -a.length=k by omega];exact h
theorem Ao.cons{ns:List cS}{p:Int}{lH m b0:Nat}{r:List Int}{aN bn:List gq}(aa:Ao ns p lH m [(lH:Int)] aN)(hm:lH<m)(ae:Ao ns p m b0 r bn):Ao ns p lH b0 ((lH:Int)::r) (aN++bn):=by
 have cU:=aa.len;have ee:=ae.len;have atc:=ae.le;refine⟨by omega,by rw[dv];omega,fun c aH=>?_,?_,fun j P8 BJ=>?_⟩
 ·rcases fg.1 aH with q|q
  ·obtain⟨bo,a2,e,a3,a4⟩:=aa.kids c (by rw[q];exact .head _);exact⟨bo,by omega,e,NT a3,a4⟩
  ·obtain⟨bo,a2,e,a3,a4⟩:=ae.kids c q;exact⟨by omega,a2,e,NU a3 (by omega),a4⟩
 ·rw[Sn];exact⟨fun c aH=>by have:=(ae.kids c aH).1;omega,ae.SZ⟩
 ·by_cases q:j<m
  ·obtain⟨x,e,bo,a2,a3,a4,a5⟩:=aa.each j P8 q;refine⟨x,e,bo,NT a2,a3,fun c aH=>?_,?_⟩
   ·obtain⟨bm,bl,bG,b8,gx⟩:=a4 c aH;exact⟨bm,by omega,bG,NT b8,gx⟩
   ·rcases a5 with⟨a5,dc⟩|a5
    ·refine .inl ⟨?_,dc⟩;simp at a5;rw[a5];exact .head _
    ·exact .inr a5
  ·obtain⟨x,e,bo,a2,a3,a4,a5⟩:=ae.each j (by omega) BJ;refine⟨x,e,bo,NU a2 (by omega),a3,fun c aH=>?_,?_⟩
   ·obtain⟨bm,bl,bG,b8,gx⟩:=a4 c aH;exact⟨bm,bl,bG,NU b8 (by omega),gx⟩
   ·rcases a5 with⟨a5,dc⟩|⟨a5,dc⟩
    ·exact .inl ⟨.tail _ a5,dc⟩
    ·exact .inr ⟨by omega,dc⟩
theorem ach{ns:List cS}{p:Int}{rec:Nat->Option (Nat×List gq)}(ay:∀n b0 e,rec n=some (b0,e)->n<b0/\b0<=ns.length/\Ao ns p n b0 [(n:Int)] e):∀{cs:List Int} {n b0:Nat} {e:List gq},hl rec cs n=some (b0,e)->Ao ns p n b0 cs e:=by
 intro cs;induction cs with
 |nil=>
  intro n b0 e h;simp only[hl,cp,dC] at h;obtain⟨rfl,rfl⟩:=h;exact⟨cZ _,by simp,(fun c aH=>by cases aH),List.Pairwise.nil,(fun j P8 BJ=>by omega)⟩
 |cons c cs aK=>
  intro n b0 e h;rw[wQ] at h;split at h
  ·cases h
  ·rename_i aH;have aH:c=(n:Int):=gP.1 aH;subst aH;split at h
   ·cases h
   ·rename_i dn bn ae;obtain⟨bo,a2,a3⟩:=ay _ _ _ ae;split at h
    ·cases h
    ·rename_i lh cP aG;simp only[cp,dC] at h;obtain⟨rfl,rfl⟩:=h;exact a3.cons bo (aK aG)
theorem aoi{ns:List cS}:∀(f:Nat) (p d:Int) (n b0:Nat) (e:List gq),dP ns f p d n=some (b0,e)->n<b0/\b0<=ns.length/\Ao ns p n b0 [(n:Int)] e:=by
 intro f;induction f with
 |zero=>intro p d n b0 e h;cases h
 |succ f aK=>
  intro p d n b0 e h;have av:=qJ _ _ _ _ _ _ h;refine⟨av.1,av.2.1,?_⟩;unfold dP at h;split at h
  ·cases h
  ·rename_i x U;split at h
   ·cases h
   ·rename_i dn es ae;simp only[cp,dC] at h;obtain⟨rfl,rfl⟩:=h;have aC:=ach (p:=(n:Int)) (fun a b c q=>aK (n:Int) (d+1) a b c q) ae;have hle:=aC.le;have hlen:=aC.len;refine⟨by omega,by rw[iQ];omega,fun c aH=>?_,So _ _,fun j P8 BJ=>?_⟩
    ·simp at aH;subst aH;exact⟨by omega,by omega,(p,d,(dn:Int) -1),by simp,rfl⟩
    ·have sh:∀(c:Int) (bG:gq),(n:Int)+1<=c->es[(c -((n+1:Nat):Int)).toNat]?=some bG->((p,d,(dn:Int) -1)::es)[(c -n).toNat]?=some bG:=fun c bG bd a6=>by
      rw[show(c -n).toNat=(c -((n+1:Nat):Int)).toNat+1 by omega,yr];exact a6
     by_cases q:j=n
     ·subst q;refine⟨x,(p,d,(dn:Int) -1),U,by simp,aC.SZ,fun c aH=>?_,.inl ⟨.head _,rfl⟩⟩;obtain⟨bm,bl,bG,b8,gx⟩:=aC.kids c aH;exact⟨by omega,bl,bG,sh c bG (by omega) b8,gx⟩
     ·obtain⟨y,e,bo,a2,a3,a4,a5⟩:=aC.each j (by omega) BJ;refine⟨y,e,bo,by rw[show j -n=(j -(n+1))+1 by omega,yr];exact a2,a3,fun c aH=>?_,?_⟩
      ·obtain⟨bm,bl,bG,b8,gx⟩:=a4 c aH;exact⟨bm,bl,bG,sh c bG (by omega) b8,gx⟩
      ·rcases a5 with⟨a5,dc⟩|⟨a5,dc⟩
       ·exact .inr ⟨by omega,by omega,x,by rw[dc,cy];exact U,a5⟩
       ·exact .inr ⟨by omega,dc⟩
structure Tree (g:bz) (P:List Int):Prop where
 len:P.length=g.ns.length
 root:P[0]?=some (-1)
 up:∀c:Nat,1<=c->c<g.ns.length->∃a:Nat,P[c]?=some (a:Int)/\a<c/\∃y,g.ns[a]?=some y/\(c:Int)∈y.ak
 down:∀(j:Nat) (x:cS),g.ns[j]?=some x->x.ak.Pairwise (·<·)/\∀c∈x.ak,(j:Int)<c/\c<g.ns.length/\P[c.toNat]?=some (j:Int)
theorem aok{g:bz}{es:List gq}{f:Nat}{d:Int}(h:dP g.ns f (-1) d 0=some (g.ns.length,es)):Tree g (es.map fun e=>e.1):=by
 obtain⟨aa,ae,aC⟩:=aoi _ _ _ _ _ _ h;have av:=aC.len;have ec:∀{i:Nat} {e:gq},es[i]?=some e->(es.map fun e=>e.1)[i]?=some e.1:=fun q=>by rw[pb,q];rfl
 refine⟨by rw[mc];omega,?_,fun c bt bw=>?_,fun j x U=>?_⟩
 ·obtain⟨_,_,e,a3,a4⟩:=aC.kids 0 (.head _);have:=ec a3;rw[a4] at this;exact this
 ·obtain⟨x,e,bo,a2,_,_,a5⟩:=aC.each c (cB _) bw;have:=ec a2;rcases a5 with⟨a5,_⟩|⟨a5,dc,y,cX,hs⟩
  ·simp at a5;omega
  ·refine⟨e.1.toNat,?_,by omega,y,cX,hs⟩;rw[Au] at this;rw[this];congr 1;omega
 ·have ba:=(dX.1 U).1;obtain⟨y,e,bo,a2,a3,a4,_⟩:=aC.each j (cB _) ba;rw[U] at bo;injection bo with bo;subst bo
  refine⟨a3,fun c aH=>?_⟩;obtain⟨bm,bl,bG,b8,gx⟩:=a4 c aH;refine⟨bm,bl,?_⟩;have:=ec b8;rw[gx] at this;rw[<-this];congr 1;omega
def mg(P:List Int)(at_:Nat):List (Nat×Nat):=
 match P[at_]? with
 |none=>[]
 |some a=>if h:0<=a/\a.toNat<at_ then(a.toNat,at_)::mg P a.toNat else[]
termination_by at_
decreasing_by exact h.2
theorem JF{P:List Int}{c a:Nat}(h:P[c]?=some (a:Int))(a':a<c):mg P c=(a,c)::mg P a:=by
 conv=>lhs;unfold mg
 rw[h];simp only;rw[dif_pos ⟨by omega,by omega⟩,cy]
theorem SS{P:List Int}{c:Nat}{a:Int}(h:P[c]?=some a)(a':a<0):mg P c=[]:=by
 unfold mg;rw[h];simp only;rw[dif_neg (by omega)]
theorem SR(P:List Int)(c:Nat):mg P c=[]\/∃a,P[c]?=some ((a:Nat):Int)/\a<c/\mg P c=(a,c)::mg P a:=by
 cases aw:P[c]? with
 |none=>left;unfold mg;rw[aw]
 |some b=>
  by_cases au:0<=b/\b.toNat<c
  ·right
   have Vs:P[c]?=some ((b.toNat:Nat):Int):=by rw[aw];congr 1;omega
   exact⟨b.toNat,by rw[<-Vs,aw],au.2,JF Vs au.2⟩
  ·left;unfold mg;rw[aw];simp only;rw[dif_neg au]
theorem aa9{P:List Int}:∀(n c:Nat),c<=n->∀{a d:Nat},(a,d)∈mg P c->∃pre,mg P c=pre++(a,d)::mg P a:=by
 intro n;induction n with
 |zero=>
  intro c aH a d h;rcases SR P c with q|⟨b,bd,a6,b9⟩
  ·rw[q] at h;cases h
  ·omega
 |succ n aK=>
  intro c aH a d h;rcases SR P c with q|⟨b,bd,a6,b9⟩
  ·rw[q] at h;cases h
  ·rw[b9] at h ⊢;rcases fg.1 h with q|q
   ·injection q with fN kd;exact⟨[],by rw[fN,kd];rfl⟩
   ·obtain⟨pre,Px⟩:=aK b (by omega) q;exact⟨(b,c)::pre,by rw[Px];rfl⟩
def BT(g:bz)(p:Int)(x:Nat×Nat):Option (Nat×Int):=match g.ns[x.1]? with
 |none=>none
 |some y=>if y.k=2/\y.p=p then some (x.1,ix (x.2:Int) y.ak 0) else none
def o1(g:bz)(P:List Int)(p:Int)(c:Nat):List (Nat×Int):=(mg P c).filterMap (BT g p)
def l5(g:bz)(a:Nat):Int:=match g.ns[a]? with|none=>0|some y=>y.i
def jU(g:bz)(P:List Int)(p:Int)(c:Nat):List (Int×Int):=(o1 g P p c).map fun x=>(l5 g x.1,x.2)
def gF(g:bz)(P:List Int)(p:Int)(c:Nat):List (Int×Int):=(jU g P p c).reverse
theorem BS{g:bz}{P:List Int}{p:Int}{c a:Nat}{y:cS}(h:P[c]?=some (a:Int))(a':a<c)(ai:g.ns[a]?=some y)(hm:y.k=2/\y.p=p):o1 g P p c=(a,ix (c:Int) y.ak 0)::o1 g P p a:=by
 unfold o1;rw[JF h a',Sf];have:BT g p (a,c)=some (a,ix (c:Int) y.ak 0):=by unfold BT;simp only[ai];rw[aE hm]
 rw[this]
theorem zE{g:bz}{P:List Int}{p:Int}{c a:Nat}{y:cS}(h:P[c]?=some (a:Int))(a':a<c)(ai:g.ns[a]?=some y)(hm:¬(y.k=2/\y.p=p)):o1 g P p c=o1 g P p a:=by
 unfold o1;rw[JF h a',Sf];have:BT g p (a,c)=none:=by unfold BT;simp only[ai];rw[ap hm]
 rw[this]
theorem Li{g:bz}{P:List Int}{p:Int}{c:Nat}{a:Int}(h:P[c]?=some a)(a':a<0):o1 g P p c=[]:=by
 unfold o1;rw[SS h a'];rfl
theorem zD{g:bz}{P:List Int}{p:Int}:∀(n c:Nat),c<=n->(o1 g P p c).length<=c:=by
 have key:∀(n c:Nat),c<=n->(mg P c).length<=c:=by
  intro n;induction n with
  |zero=>
   intro c aH;unfold mg;split
   ·simp
   ·split
    ·omega
    ·simp
  |succ n aK=>
   intro c aH;unfold mg;split
   ·simp
   ·split
    ·rename_i b _ au;have:=aK b.toNat (by omega);rw[iQ];omega
    ·simp
 intro n c aH;exact p0 (List.length_filterMap_le _ _) (key n c aH)
theorem apl{g:bz}{P:List Int}{p:Int}{c a d:Nat}{y:cS}(h:(a,d)∈mg P c)(ai:g.ns[a]?=some y)(hm:y.k=2/\y.p=p):gF g P p c≠gF g P p a:=by
 intro q;have av:(gF g P p c).length=(gF g P p a).length:=by rw[q]
 obtain⟨pre,Px⟩:=aa9 c c (cZ _) h;unfold gF jU o1 at av;rw[Px,List.filterMap_append,Sf] at av;have:BT g p (a,d)=some (a,ix (d:Int) y.ak 0):=by unfold BT;simp only[ai];rw[aE hm]
 rw[this] at av;simp only[uT,mc,dv,iQ] at av;omega
def Ad{σ:Type}(step:σ->Nat->Int->σ×Bool):σ->List (Nat×Int)->σ
 |s,[]=>s
 |s,x::r=>if(step s x.1 x.2).2=true then Ad step (step s x.1 x.2).1 r else(step s x.1 x.2).1
end
end Go.Opn

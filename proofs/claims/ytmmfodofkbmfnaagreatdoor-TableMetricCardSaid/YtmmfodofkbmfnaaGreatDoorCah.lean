/- A part of the proof of TableMetric. -/
import Derived.Test.YtmmfodofkbmfnaaGreatDoorCag
import Derived.Orders
set_option linter.unusedVariables false
set_option linter.unusedSimpArgs false
namespace Go.Cre
noncomputable section
open Go.RowKit
section
variable {P:Program}{B:Nat->Prop}{w0 w:World}{μ:bm}{H H':ah}
theorem aau(z:Array Value)(n:Nat):(Builtin.zeroCells z n).size=n*z.size:=by simp[Builtin.zeroCells]
theorem Ep{a b bA b':List Value}{elem:TypeId}{z:Value}{sz zw cap f du r:Nat}{sh:Bool}{a4:bm}(aK:bp a4 a bA)(af:bp a4 b b')(de:P.cellsOf elem=sz)(a0:z.cells.toList.length=sz)(aw:(a++b).length=zw*sz)(lN:zw<=cap):
 hl P a4 ⟨r,cap*sz,sz⟩ (.row (a++b) elem true f du sh) (.cells (bA.toArray++(b'.toArray++Builtin.zeroCells z.cells (cap -zw))) elem):=by
 have aF:=aK.append af;have mK:z.cells.size=sz:=by simpa using a0
 have TF:(bA.toArray++(b'.toArray++Builtin.zeroCells z.cells (cap -zw)))=(bA++b').toArray++Builtin.zeroCells z.cells (cap -zw):=by
  apply mZ;simp
 rw[TF];refine⟨rfl,?_,de,?_,(fun h=>by cases h),fun i v v' a b=>?_,⟨fun off _ U ab=>by simp at ab,fun _=>.inl rfl⟩⟩
 ·rw[Array.size_append,aau,mK];simp only[HZ];rw[<-aF.1,aw,<-hH];congr 1;omega
 ·show(a++b).length<=cap*sz;rw[aw];exact kf _ lN
 ·refine aF.2 i v v' a ?_;have aq:i<(bA++b').length:=by
   have:=(h4.1 a).1;have:=aF.1;omega
  rw[Ot (by simpa using aq)] at b;simpa using b
theorem IR{a b:Nat}(h:Nat.blt a b=false):b<=a:=by
 rcases gX a b with q|q
 ·have:=jx q;unfold Nat.blt at h;simp_all
 ·exact q
theorem Rr(h:bz P B w0 μ H w){ft fK dq:TypeId}{fz:TypeDesc}{s c1 x dh v:Value}(ag:a3 μ s c1)(j:a3 μ x dh)(h0:P.underlying fK=some fz)(qF:∀k,fz≠.int k)(he:lK P H ft s x=some (v,H')):
 ∃v' aZ a4,(Builtin.append_ #[ft,fK] dq #[c1,dh]).run P w=.ok v' aZ/\bz P B w0 a4 H' aZ/\Step μ a4 H H'/\a3 a4 v v':=by
 unfold lK at he;cases hu:P.underlying ft with
 |none=>rw[hu] at he;simp at he
 |some d=>
  rw[hu] at he;cases d with
  |slice elem=>
   cases s with
   |slice base ct gu=>
    simp only at he;cases de:dD P elem with
    |none=>rw[de] at he;simp at he
    |some sz=>
    rw[de] at he;cases fQ:o8 P elem with
    |none=>rw[fQ] at he;simp at he
    |some fG=>
    rw[fQ] at he;cases a0:fw P elem with
    |none=>rw[a0] at he;simp at he
    |some z=>
    rw[a0] at he;cases aE:mL x with
    |none=>rw[aE] at he;simp at he
    |some n=>
    rw[aE] at he;simp only at he;cases vS:(Nat.ble (ct+n) 1000000&&Nat.ble fG 1000000&&Nat.beq z.cells.toList.length sz) with
    |false=>rw[vS] at he;simp at he
    |true=>
    rw[vS] at he;simp only[kB,cZ] at he;simp only[eT] at vS;obtain⟨⟨aQ,aP⟩,bC⟩:=vS;have aQ:=fV aQ;have aP:=fV aP;have bC:=dB bC;cases ay:hd H sz n x with
    |none=>rw[ay] at he;simp at he
    |some new=>
    rw[ay] at he;simp only at he;cases g2:(new.all dY&&Nat.beq new.length (n*sz)) with
    |false=>rw[g2] at he;simp at he
    |true=>
    rw[g2] at he;simp only[kB,cZ] at he;simp only[eT] at g2;have dp:=dB g2.2;obtain⟨mQ,cV,dn⟩:=A6 h j aE (c9 _) ay;have hlen:=Lw (P:=P) j aE;obtain⟨i,aq,rfl⟩:=DE fQ
    have mK:i.zero=some z:=by simpa[fw,aq] using a0
    have nv:i.size=sz:=by simpa[dD,aq] using de
    have ot:(Builtin.firstCells i.size n dh).run P w=.ok mQ.toArray w:=by rw[nv];exact dn w.drawn
    have dd:(cf:Nat)=1208925819614629174706176:=rfl;by_cases v9:gu=cf
    ·subst v9;rw[ga,bH] at he;cases base with
     |none=>simp at he
     |some a=>
      obtain⟨id,off,L,eB,c',rfl,bD,rfl,ae,_,oo⟩:=ag.pY (.inr (.inr (by decide)));simp only at he;cases hm:H.mem.get id with
      |none=>rw[hm] at he;simp at he
      |some b=>
       rw[hm] at he;cases b with
       |row cells el opn ba du sh=>
        cases opn with
        |false=>simp at he
        |true=>
        simp only at he;cases oj:(Nat.beq el elem&&!Nat.blt id H.bf&&Nat.ble du (off+ct*sz)) with
        |false=>rw[oj] at he;simp at he
        |true=>
        rw[oj] at he;simp only[kB,cZ] at he;simp only[eT,nT] at oj;obtain⟨⟨cJ,cW⟩,eE⟩:=oj;have cJ:=dB cJ;subst cJ;have cW:=IR cW;have eE:=fV eE;obtain⟨c,f,b4,b0,cI,eM,eH,fg,e2⟩:=h.row bD hm;have Bi:L.sz=sz:=by rw[<-cI];exact GU de
        cases gV:Nat.beq n 0 with
        |true=>
         rw[gV,bH] at he;simp only[bL,cU] at he;obtain⟨rfl,rfl⟩:=he;have gV:=dB gV;subst gV;have Fc:mQ=[]:=by
          have:=cV.1;rw[dp] at this;exact s8.1 (by omega)
         subst Fc;refine⟨_,w,μ,?_,h,Step.refl _ _,ag⟩;have hle:ct+0<=c':=by
          rcases oo with⟨bE,_⟩|⟨_,b8,_⟩|⟨_,b8,dj⟩<;>omega
         exact CE ft fK dq el fz i hu h0 qF aq (some ⟨L.r,eB,none⟩) ct c' 0 dh [] w hlen ot hle (fun a _=>rfl) (fun q=>by cases q)
        |false=>
        rw[gV,cZ] at he;have abZ:0<n:=by
         rcases ke n with q|q
         ·subst q;simp at gV
         ·exact q
        cases yT:Nat.beq off 0 with
        |false=>rw[yT] at he;simp at he
        |true=>
        rw[yT] at he;simp only[kB,cZ] at he;have yT:=dB yT;subst yT;cases hold:takeN (ct*sz) cells with
        |none=>rw[hold] at he;simp at he
        |some c3=>
        rw[hold] at he;simp only at he;obtain⟨l4,nH,Wy⟩:=w6 hold;cases gU:H.ba.get ba with
        |none=>rw[gU] at he;simp at he
        |some l=>
        rw[gU] at he;simp only at he;cases vU:rV H id l with
        |none=>rw[vU] at he;simp at he
        |some p=>
        obtain⟨eJ,H1⟩:=p;rw[vU] at he;simp only at he;obtain⟨a8,a5,bI,cL,gy,kq,ss,st,FY,pre,ach,Vf⟩:=QA vU;have E9:∀x,H1.mem.get x=H.mem.get x\/(H1.mem.get x=some .dead/\(hM (H.mem.get x)=true\/H.mem.get x=some .dead)):=fun x=>by
         rcases FY x with q|q
         ·exact .inl q
         ·exact .inr ⟨q.1,(h.im ba l x gU q.2).2⟩
        obtain⟨yp,vP⟩:=h.kill (H':=H1) a8 bI cL E9 (fun f l aw=>⟨l,by rw[a5];exact aw,cl _,fun x a b=>absurd a b⟩) (fun f l aw=>⟨l,by rw[<-a5];exact aw,cl _⟩)
        --rk c3 members Zh stay Ps no F6 acT Hj is kept
        have TW:∀y∈eJ,∀c e f z s,H1.mem.get y=some (.row c e true f z s)->c.length<=cells.length:=fun y aC c e f z s q=>by
         have Ur:=yp.pk ba l (by rw[a5];exact gU);have Fw:=Ur.sublist gy;rw[Vf] at Fw aC;rcases fy.1 aC with rfl|aC
         ·rw[ss,hm] at q;injection q with q;injection q with q;subst q;exact c9 _
         ·exact(List.pairwise_cons.1 Fw).1 y aC _ _ _ _ _ _ _ _ _ _ (by rw[ss];exact hm) q
        --rk second cut
        cases bY:x2 H1 eJ (Nat.beq cells.length (ct*sz)) with
        |none=>rw[bY] at he;simp at he
        |some p=>
        obtain⟨ei,bG⟩:=p;rw[bY] at he;simp only at he;unfold x2 at bY
        have oe:bz P B w0 μ bG w/\Step μ μ H bG/\bG.av=H.av/\bG.bM=H.bM/\bG.bf=H.bf/\bG.ba.get ba=some l/\ei.Sublist l/\(∀x,x∈l->x∉ei->bG.mem.get x=some .dead)/\
         (∀y∈ei,∀c e f z s,bG.mem.get y=some (.row c e true f z s)->c.length<=ct*sz)/\(∀x,bG.mem.get x=H.mem.get x\/bG.mem.get x=some .dead):=by
         cases af:Nat.beq cells.length (ct*sz) with
         |true=>
          rw[af,bH] at bY;simp only[bL,cU] at bY;obtain⟨rfl,rfl⟩:=bY;have af:=dB af;exact⟨yp,vP,a8,bI,cL,by rw[a5];exact gU,gy,st,fun y aC c e f z s q=>by have:=TW y aC c e f z s q;omega,fun x=>(E9 x).imp (fun q=>q) And.left⟩
         |false=>
          rw[af,cZ] at bY;cases hk:nA H1 H1.av eJ with
          |none=>rw[hk] at bY;simp at bY
          |some Am=>
           rw[hk] at bY;simp only[bL,cU] at bY;obtain⟨rfl,rfl⟩:=bY;obtain⟨bP,bS,cE,c4,cO,ey⟩:=B0 hk;have r':∀x,x∈eJ->Am.mem.get x=some .dead:=fun x j=>cO x j (fun e=>by
            have:=(yp.im ba l x (by rw[a5];exact gU) (gy.mem j)).1;omega)
           have E':∀x,Am.mem.get x=H1.mem.get x\/(Am.mem.get x=some .dead/\(hM (H1.mem.get x)=true\/H1.mem.get x=some .dead)):=fun x=>by
            by_cases j:x∈eJ
            ·exact .inr ⟨r' x j,(yp.im ba l x (by rw[a5];exact gU) (gy.mem j)).2⟩
            ·exact .inl (ey x (.inl j))
           obtain⟨oe,yw⟩:=yp.kill (H':=Am) bP cE c4 E' (fun f l aw=>⟨l,by rw[bS];exact aw,cl _,fun x a b=>absurd a b⟩) (fun f l aw=>⟨l,by rw[<-bS];exact aw,cl _⟩);refine⟨oe,vP.trans yw,by omega,by omega,by omega,by rw[bS,a5];exact gU,b1 _,fun x j _=>?_,fun y aC=>by simp at aC,fun x=>?_⟩
           ·by_cases lU:x∈eJ
            ·exact r' x lU
            ·have:=st x j lU;rcases E' x with q|q
             ·rw[q];exact this
             ·exact q.1
           ·rcases E' x with q|q
            ·rw[q];exact(E9 x).imp (fun q=>q) And.left
            ·exact .inr q.1
        obtain⟨oe,yw,cM,gz,mN,oF,mO,sy,LJ,LK⟩:=oe;cases wi:bG.mW ba (bG.av::ei) with
        |none=>rw[wi] at he;simp at he
        |some f'=>
        rw[wi] at he;simp only at he;obtain⟨s1,s2,iP,uO,nL⟩:=ah.w4 wi;cases Fa:f'.new (.row (c3++new) el true ba du sh) with
        |none=>rw[Fa] at he;simp at he
        |some p=>
        obtain⟨Wn,jf⟩:=p;rw[Fa] at he;simp only[bL,cU] at he;obtain⟨rfl,rfl⟩:=he;obtain⟨rfl,t1,t2,t3,t4,t5⟩:=ah.l3 Fa;have aA:jf.av=bG.av+1:=by omega
        have b5:∀m,jf.mem.get m=if m=bG.av then some (.row (c3++new) el true ba du sh) else bG.mem.get m:=fun m=>by rw[t5,s1,s2]
        have hc:∀m,jf.ba.get m=if m=ba then some (bG.av::ei) else bG.ba.get m:=fun m=>by rw[t2,nL]
        have kM:ba<bG.bM:=by have:=h.mu _ _ _ _ _ _ hm;omega
        have yP:(c3++new).length=(ct+n)*sz:=by rw[hP,nH,dp,hH]
        have qQ:∀y∈ei,∀c e f z s,bG.mem.get y=some (.row c e true f z s)->c.length<=(c3++new).length:=fun y aC c e f z s q=>by
         have:=LJ y aC c e f z s q;rw[hP,nH];omega
        --Hj is kept,acJ
        have Ff:bp μ c3 (c.toList.take (ct*sz)):=by
         have:=fg.take (ct*sz);rw[<-l4,rE,h5 Wy] at this;exact this
        rw[s1];rcases oo with⟨bE,_⟩|⟨_,b8,rfl,dj⟩|⟨_,rfl,rfl⟩
        ·omega
        ·--a slice with room of acf own,or none
         by_cases j8:ct+n<=c'
         ·--in place
          rw[Bi] at dj;have uf:(ct+n)*sz<=L.N:=by
           have:=kf sz j8;omega
          have dA:=M1 (P:=P) L.r (ct*sz) el f mQ 0 c w b4 (by rw[<-cV.1,dp,b0];rw[hH] at uf;omega) (fun aa aX=>by
           rw[<-cV.1,dp] at aX;exact JE e2 (by rw[hH] at uf;omega) (by omega)) (Pk cV g2.1)
          simp only[n0] at dA
          obtain⟨yq,qB⟩:=oe.XD (H':=jf) (f:=ba) (id:=id) (l:=ei) (l0:=l) (cells:=c3++new) (elem:=el) (du:=du) (sh:=sh) (o:=.cells c el f) (o':=.cells (l6 c (ct*sz) mQ) el f) (L:=L) oF mO sy kM bD (by omega) (h.new id L bD (by omega) (by rw[hm];intro q;cases q)) aA (by omega) (by omega) b5 hc qQ
           (fun y bn aC ap=>by
            by_cases mA:bG.mem.get y=some .dead
            ·exact .inl mA
            ·right
             have zb:y∈l/\qY H y ba:=by
              by_cases pC:y=id
              ·subst pC;exact⟨gy.mem kq,⟨_,_,_,_,hm⟩⟩
              ·rcases h.sep id y L bn (Ne.symm pC) bD aC ap.symm with d|d|⟨cd,l',⟨bE,n8,dw,CF,q⟩,cR,cY,_,VP⟩
               ·rw[hm] at d;cases d
               ·exact absurd ((LK y).elim (fun q=>q.trans d) (fun q=>q)) mA
               ·rw[hm] at q;injection q with q;injection q with _ _ _ q;subst q
                rw[gU] at cY;injection cY with cY;subst cY
                exact⟨VP,cR⟩
             have Lb:y∈ei:=Oy fun gH=>mA (sy y zb.1 gH);obtain⟨b,o,dG,iN,kw⟩:=oe.eG y bn aC;have jI:bG.mem.get y=H.mem.get y:=(LK y).resolve_right mA;obtain⟨QD,RZ,aax,Y7,Cx⟩:=zb.2;have acB:=dG;rw[jI,Cx] at dG;injection dG with dG;subst dG
             have abP:=LJ y Lb _ _ _ _ _ (jI.trans Cx);refine⟨⟨QD,RZ,aax,Y7,jI.trans Cx⟩,Lb,_,jI.trans Cx,?_⟩;rw[ap,b4] at iN;injection iN with iN;subst iN
             obtain⟨dw,dZ,z',Aa,CZ,Ab,Ac⟩:=kw;refine⟨dw,by rw[GW];exact dZ,z',Aa,fun q=>(by cases q),fun aa v v' a b=>?_,Ac⟩;rw[CI _ _ _ _ (by rw[<-cV.1,dp,b0];rw[hH] at uf;omega)] at b;have aX:=(h4.1 a).1;rw[a1 (by omega)] at b;exact Ab aa v v' a b)
           (by
            refine⟨rfl,by rw[GW];exact b0,cI,by rw[yP];exact uf,fun q=>(by cases q),fun aa v v' a b=>?_,e2⟩;rw[CI _ _ _ _ (by rw[<-cV.1,dp,b0];rw[hH] at uf;omega)] at b;rw[HR] at a;rw[nH] at a;split at a
            ·rename_i aX;rw[a1 (by omega)] at b;refine Ff.2 aa v v' a ?_;rw[kX,bs aX];simpa using b
            ·rename_i aX;have Ku:=(h4.1 a).1;rw[bs (by rw[<-cV.1];omega)] at b;exact cV.2 _ v v' a b)
          refine⟨.slice (some ⟨L.r,0,none⟩) (ct+n) c',_,_,?_,yq,yw.trans qB,?_⟩
          ·exact CE ft fK dq el fz i hu h0 qF aq (some ⟨L.r,0,none⟩) ct c' n dh mQ _ hlen ot j8 (fun a q=>by
            injection q with q;subst q
            rw[Addr.ml,nv,lE];exact dA) (fun q=>by cases q)
          ·exact .lo bG.av 0 (ct+n) c' L (bm.hC _ _ _) j8 (by rw[Bi];exact dj)
         ·--it abo
          have e4:=GO (P:=P) (w:=w) ft fK dq el fz i z hu h0 qF aq mK (some ⟨L.r,0,none⟩) ct c' n dh (c.toList.take (ct*sz)) mQ hlen
           (fun eY=>by
            rw[nv];refine run_firstCells_some (P:=P) {w with drawn:=eY} sz ct ⟨L.r,0,none⟩ ct c' _ (by rw[<-Ff.1,nH]) (fun aa v aX=>?_);rw[Addr.ml,lE];have:=cell_of_row (w:={w with drawn:=eY}) b4 aa;rw[this];rw[kX] at aX;split at aX
            ·simpa using aX
            ·cases aX)
           (fun eY=>by rw[nv];exact dn eY) (by omega) aQ aP
          have hZ:=grownCap_ge w (ct+n) c' el
          obtain⟨yq,qB⟩:=oe.drew.ME (H':=jf) (f:=ba) (l:=ei) (l0:=l) (cells:=c3++new) (elem:=el) (du:=du) (sh:=sh)
           (o:=.cells ((c.toList.take (ct*sz)).toArray++(mQ.toArray++Builtin.zeroCells z.cells (grownCap w (ct+n) c' el -(ct+n)))) el) (L:=⟨w.heap.size,grownCap w (ct+n) c' el*sz,sz⟩) oF mO sy kM aA (by omega) (by omega) b5 hc qQ rfl
           (Ep (Ff.mono (oe.pj _)) (cV.mono (oe.pj _)) (by rw[cI,Bi]) bC yP hZ)
          refine⟨_,_,_,e4,yq,yw.trans qB,?_⟩;exact .lo bG.av 0 (ct+n) _ ⟨w.heap.size,grownCap w (ct+n) c' el*sz,sz⟩ (bm.hC _ _ _) hZ (by simp)
        ·--a slice ac3 room
         have e4:=GO (P:=P) (w:=w) ft fK dq el fz i z hu h0 qF aq mK (some ⟨L.r,eB,none⟩) 0 0 n dh [] mQ hlen
          (fun eY=>by simp[Builtin.firstCells,loadCells,loadCellsFrom])
          (fun eY=>by rw[nv];exact dn eY) (by omega) aQ aP
         have hZ:=grownCap_ge w (0+n) 0 el;have BE:c3=[]:=s8.1 (by omega);subst BE
         obtain⟨yq,qB⟩:=oe.drew.ME (H':=jf) (f:=ba) (l:=ei) (l0:=l) (cells:=[]++new) (elem:=el) (du:=du) (sh:=sh)
          (o:=.cells (([]:List Value).toArray++(mQ.toArray++Builtin.zeroCells z.cells (grownCap w (0+n) 0 el -(0+n)))) el) (L:=⟨w.heap.size,grownCap w (0+n) 0 el*sz,sz⟩) oF mO sy kM aA (by omega) (by omega) b5 hc qQ rfl
          (Ep (bp.nil _) (cV.mono (oe.pj _)) (by rw[cI,Bi]) bC yP hZ)
         refine⟨_,_,_,e4,yq,yw.trans qB,?_⟩;exact .lo bG.av 0 (0+n) _ ⟨w.heap.size,grownCap w (0+n) 0 el*sz,sz⟩ (bm.hC _ _ _) hZ (by simp)
       |_=>simp at he
    ·rw[Dx v9,cZ] at he
     --rk exact acz
     have mH:∀a,base=some a->a.spot=none:=fun a q=>by
      subst q;cases q:a.spot with
      |none=>rfl
      |some k=>
       exfalso;cases ay:Nat.ble (ct+n) gu with
       |true=>rw[ay] at he;simp[q] at he
       |false=>rw[ay] at he;simp[sC,q] at he
     have EN:(base=none/\c1=.slice none ct gu)\/(∃id off L,base=some ⟨id,off,none⟩/\μ id=some L/\c1=.slice (some ⟨L.r,off,none⟩) ct gu):=by
      cases base with
      |none=>exact .inl ⟨rfl,ag.nM⟩
      |some a=>
       obtain⟨id,off,L,eB,c',rfl,bD,rfl,ae,_,oo⟩:=ag.pY (.inl (mH a rfl));rcases oo with⟨_,rfl,rfl⟩|⟨q,_⟩|⟨q,_⟩
       ·exact .inr ⟨id,eB,L,rfl,bD,rfl⟩
       ·exact absurd q v9
       ·exact absurd q v9
     cases j8:Nat.ble (ct+n) gu with
     |true=>
      rw[j8,bH] at he;have j8:=fV j8;rcases EN with⟨rfl,rfl⟩|⟨id,off,L,rfl,bD,rfl⟩
      ·simp only at he;cases gV:Nat.beq n 0 with
       |false=>rw[gV] at he;simp at he
       |true=>
        rw[gV,bH] at he;simp only[bL,cU] at he;obtain⟨rfl,rfl⟩:=he;have gV:=dB gV;subst gV;refine⟨_,w,μ,?_,h,Step.refl _ _,ag⟩;exact CE ft fK dq elem fz i hu h0 qF aq none ct gu 0 dh mQ w hlen ot j8 (fun a q=>by cases q) (fun _=>rfl)
      ·simp only at he;cases dA:ni H id (off+ct*sz) new with
       |none=>rw[dA] at he;simp at he
       |some H1=>
        rw[dA] at he;simp only[bL,cU] at he;obtain⟨rfl,rfl⟩:=he;obtain⟨aZ,bP,bS,cE⟩:=Ba h bD cV dA;refine⟨.slice (some ⟨L.r,off,none⟩) (ct+n) gu,aZ,μ,?_,bS,cE,?_⟩
        ·exact CE ft fK dq elem fz i hu h0 qF aq (some ⟨L.r,off,none⟩) ct gu n dh mQ aZ hlen ot j8 (fun a q=>by
          injection q with q;subst q
          rw[Addr.ml,nv];exact bP) (fun q=>by cases q)
        ·have cx:gu<cf:=by
          obtain⟨_,_,_,_,_,_,_,_,_,_,oo⟩:=ag.pY (.inl rfl);rcases oo with⟨q,_⟩|⟨q,_⟩|⟨q,_⟩
          ·exact q
          ·exact absurd q v9
          ·exact absurd q v9
         exact .kb id off _ _ L bD cx
     |false=>
      rw[j8,cZ,show sC base=true from by rcases EN with⟨rfl,_⟩|⟨_,_,_,rfl,_⟩<;>rfl,bH] at he;have j8:gu<ct+n:=by
       rcases gX gu (ct+n) with q|q
       ·exact q
       ·rw[jx q] at j8;cases j8
      cases hold:hd H sz ct (.slice base ct gu) with
      |none=>rw[hold] at he;simp at he
      |some c3=>
       rw[hold] at he;simp only at he;obtain⟨Mi,l4,nH⟩:=A6 h ag (m:=ct) rfl (c9 _) hold;cases g4:Nat.beq c3.length (ct*sz) with
       |false=>rw[g4] at he;simp at he
       |true=>
        rw[g4,bH] at he;have g4:=dB g4;unfold fresh at he;cases gH:H.kt (c3++new) elem false with
        |none=>rw[gH] at he;simp at he
        |some p=>
         obtain⟨Wn,H1⟩:=p;rw[gH] at he;simp only[bL,cU] at he;obtain⟨rfl,rfl⟩:=he;have hZ:=grownCap_ge w (ct+n) gu elem;have yP:(c3++new).length=(ct+n)*sz:=by rw[hP,g4,dp,hH]
         obtain⟨bP,bS,rfl⟩:=h.drew.F' (o:=.cells (Mi.toArray++(mQ.toArray++Builtin.zeroCells z.cells (grownCap w (ct+n) gu elem -(ct+n)))) elem) (L:=⟨w.heap.size,grownCap w (ct+n) gu elem*sz,sz⟩) gH rfl
          (fun f=>Ep (l4.mono (h.pj _)) (cV.mono (h.pj _)) (GU de) bC yP hZ)
         have Uo:∃b',c1=.slice b' ct gu:=by
          rcases EN with⟨_,q⟩|⟨_,_,_,_,_,q⟩
          ·exact⟨_,q⟩
          ·exact⟨_,q⟩
         obtain⟨b',rfl⟩:=Uo
         have e4:=GO (P:=P) (w:=w) ft fK dq elem fz i z hu h0 qF aq mK b' ct gu n dh Mi mQ hlen
          (fun eY=>by rw[nv];exact nH eY) (fun eY=>by rw[nv];exact dn eY) j8 aQ aP
         exact⟨_,_,_,e4,bP,bS,.lo H.av 0 (ct+n) _ _ (bm.hC _ _ _) hZ (by simp)⟩
   |_=>simp at he
  |_=>simp at he
end
end
end Go.Cre
namespace Go.Cre
noncomputable section
open Go.RowKit
section
variable {P:Program}{B:Nat->Prop}{w0 w:World}{μ:bm}{H H':ah}
theorem Rx(h:bz P B w0 μ H w){mX ft dq:TypeId}{d ht s c1 v:Value}(ax:a3 μ d ht)(ag:a3 μ s c1)(he:D2 P H mX d s=some (v,H')):
 ∃v' aZ,(Builtin.copy_ #[mX,ft] dq #[ht,c1]).run P w=.ok v' aZ/\bz P B w0 μ H' aZ/\Step μ μ H H'/\a3 μ v v':=by
 unfold D2 at he;cases hu:P.underlying mX with
 |none=>rw[hu] at he;simp at he
 |some t=>
  rw[hu] at he;cases t with
  |slice elem=>
   cases d with
   |slice base pf aa7=>
    cases aw:mL s with
    |none=>rw[aw] at he;simp at he
    |some ct=>
     rw[aw] at he;simp only at he;cases de:dD P elem with
     |none=>rw[de] at he;simp at he
     |some sz=>
      rw[de] at he;simp only at he;generalize aE:(bif Nat.ble ct pf then ct else pf)=n at he;have BA:Nat.min ct pf=n:=by
          rw[<-aE];cases af:Nat.ble ct pf with
          |true=>have:=fV af;simp;exact h5 this
          |false=>
           have:¬ct<=pf:=fun q=>by rw[jx q] at af;cases af
           simp;exact Nat.min_eq_right (by omega)
      have BC:n<=ct:=by rw[<-BA];exact Nat.min_le_left _ _
      cases ay:hd H sz n s with
      |none=>rw[ay] at he;simp at he
      |some cells=>
       rw[ay] at he;simp only at he;obtain⟨cells',bE,b8⟩:=A6 h ag aw BC ay;have hlen:=Lw (P:=P) ag aw;have Kp:(Builtin.firstCells sz n c1).run P w=.ok cells'.toArray w:=b8 w.drawn;cases base with
       |none=>
        simp only[bL,cU] at he;obtain⟨rfl,rfl⟩:=he;rw[ax.nM];refine⟨.int .i64 n,w,?_,h,Step.refl _ _,.atom _ rfl⟩;simp[Builtin.copy_,dH hu,hlen,BA,h3 de,Kp,goInt]
       |some a=>
        have mH:a.spot=none:=by
         cases q:a.spot with
         |none=>rfl
         |some _=>simp[q] at he
        obtain⟨id,off,L,eB,c',rfl,bD,rfl,ae,_,_⟩:=ax.pY (.inl mH);simp only at he;cases iV:cells.all dY with
        |false=>rw[iV] at he;simp at he
        |true=>
         rw[iV] at he;simp only[kB,cZ] at he;cases dA:ni H id off cells with
         |none=>rw[dA] at he;simp at he
         |some H1=>
          rw[dA] at he;simp only[bL,cU] at he;obtain⟨rfl,rfl⟩:=he;obtain⟨aZ,bP,bS,cE⟩:=Ba h bD bE dA;refine⟨.int .i64 n,aZ,?_,bS,cE,.atom _ rfl⟩;have Us:(storeCells ⟨L.r,eB,none⟩ cells').run P w=.ok () aZ:=by
           by_cases a2:0<pf
           ·rw[ae a2];exact bP
           ·have gV:n=0:=by rw[<-BA];have:pf=0:=by omega
                            rw[this];exact Nat.min_zero _
            have:cells=[]:=by
             subst gV;cases s with
             |slice b l c=>cases b with
              |none=>simp[hd] at ay;exact ay
              |some b=>
               simp[hd] at ay;exact ay
             |string s=>simp[hd,takeN] at ay;exact ay
             |_=>simp[mL] at aw
            subst this;have:=bE.ie;subst this;simp only[storeCells] at bP ⊢;exact bP
          simp[Builtin.copy_,dH hu,hlen,BA,h3 de,Kp,goInt,Us]
   |_=>simp at he
  |_=>simp at he
theorem Rv(h:bz P B w0 μ H w){t dq:TypeId}{x dh v:Value}(ax:a3 μ x dh)(he:DZ P H t x=some (v,H')):
 ∃v' aZ,(Builtin.clear_ #[t] dq #[dh]).run P w=.ok v' aZ/\bz P B w0 μ H' aZ/\Step μ μ H H'/\a3 μ v v':=by
 have FI:a3 μ (.tuple #[]) (.tuple #[]):=.tuple _ _ rfl (fun i v v' q=>by simp at q);unfold DZ at he;split at he
 ·rename_i d l c hu;simp only[bL,cU] at he;obtain⟨rfl,rfl⟩:=he;rw[ax.nM];exact⟨.tuple #[],w,by simp[Builtin.clear_,dH hu],h,Step.refl _ _,FI⟩
 ·rename_i d a c hu;simp only[bL,cU] at he;obtain⟨rfl,rfl⟩:=he;obtain⟨bA,c',rfl⟩:=ax.sR;exact⟨.tuple #[],w,by simp[Builtin.clear_,dH hu],h,Step.refl _ _,FI⟩
 ·rename_i elem a n c hu;split at he
  ·rename_i z mH a0;cases dO:plain z with
   |false=>rw[dO] at he;cases he
   |true=>
    rw[dO,bH] at he;split at he
    ·rename_i H1 dA;simp only[bL,cU] at he;obtain⟨rfl,rfl⟩:=he;obtain⟨id,off,L,eB,c',rfl,bD,rfl,ae,_,_⟩:=ax.pY (.inl mH);have ae:=ae (Nat.succ_pos n);subst ae;have nz:bp μ z.cells.toList z.cells.toList:=(ll dO).cells;have qC:bp μ (fb z.cells.toList (n+1)) (fb z.cells.toList (n+1)):=bp.w3 fun v aD=>by
      exact Ad (p:=fun v=>a3 μ v v) aD (fun u hu=>by
       obtain⟨i,aq⟩:=vc.1 hu;exact nz.2 i u u aq aq)
     obtain⟨aZ,bP,bS,cE⟩:=Ba h bD qC dA;refine⟨.tuple #[],aZ,?_,bS,cE,FI⟩;have jq:=Ae z.cells.toList (n+1);have e:(Builtin.zeroCells z.cells (n+1)).toList=fb z.cells.toList (n+1):=by
      have:Builtin.zeroCells z.cells (n+1)=(fb z.cells.toList (n+1)).toArray:=by
       rw[<-jq];simp[Builtin.zeroCells]
      rw[this]
     simp[Builtin.clear_,dH hu,p4 a0,e,bP]
    ·cases he
  ·cases he
 ·cases he
theorem Xs:∀{tF:List Field} {ps:List (Nat×Nat)},places P tF=some ps->ps.length=tF.length/\∀w,(tF.mapM (fun f=>Prod.mk f.offset <$> sizeOf f.type):Sem (List (Nat×Nat))).run P w=.ok ps w:=by
 intro tF;induction tF with
 |nil=>intro ps h;simp[places] at h;subst h;exact⟨rfl,fun w=>by simp⟩
 |cons f tF aN=>
  intro ps h;simp only[places] at h;cases ag:dD P f.type with
  |none=>rw[ag] at h;simp at h
  |some n=>
   rw[ag] at h;cases ao:places P tF with
   |none=>rw[ao] at h;simp at h
   |some r=>
    rw[ao] at h;simp only[bL] at h;subst h;obtain⟨a,b⟩:=aN ao;refine⟨by simp[a],fun w=>?_⟩;simp[HV,h3 ag,b]
theorem R8(vs:List Value):∀(c:Array Value) (off k:Nat),(vs.zipIdx k).foldl (fun cs (x:Value×Nat)=>cs.setIfInBounds (off+x.2) x.1) c=l6 c (off+k) vs:=by
 induction vs with
 |nil=>intro c off k;rfl
 |cons v vs aN=>intro c off k;simp only[List.zipIdx_cons,List.foldl_cons,l6];rw[aN];congr 1
theorem Yw{off:Nat}{cells vs DL:List Value}(h:fD off cells vs=some DL):l6 cells.toArray off vs=DL.toArray:=by
 obtain⟨aA,aW,cr⟩:=GX h;apply xj
 intro i;rw[CI _ _ _ _ (by simpa using aW)];have:=cr i;simp only[OM];rw[this]
theorem Yz{off:Nat}{cells cells' vs jU r:List Value}(aF:bp μ cells cells')(aD:bp μ vs jU)(h:fD off cells vs=some r):∃cA,fD off cells' jU=some cA/\bp μ r cA:=by
 induction off generalizing cells cells' r with
 |zero=>
  induction vs generalizing cells cells' jU r with
  |nil=>
   have:=aD.ie;subst this;simp[fD] at h;subst h;exact⟨cells',by simp[fD],aF⟩
  |cons v vs aN=>
   obtain⟨v',ix,rfl,U,ab⟩:=aD.g6;cases cells with
   |nil=>simp[fD] at h
   |cons c cs=>
    obtain⟨bo,cb,rfl,b4,b0⟩:=aF.g6;simp only[fD] at h ⊢;cases ag:fD 0 cs vs with
    |none=>rw[ag] at h;simp at h
    |some wX=>
     rw[ag] at h;simp only[bL] at h;subst h;obtain⟨cA,aA,aW⟩:=aN ab b0 ag;rw[aA];exact⟨v'::cA,rfl,bp.cons U aW⟩
 |succ n aN=>
  cases cells with
  |nil=>simp[fD] at h
  |cons c cs=>
   obtain⟨bo,cb,rfl,b4,b0⟩:=aF.g6;simp only[fD] at h ⊢;cases ag:fD n cs vs with
   |none=>rw[ag] at h;simp at h
   |some wX=>
    rw[ag] at h;simp only[bL] at h;subst h;obtain⟨cA,aA,aW⟩:=aN b0 ag;rw[aA];exact⟨bo::cA,rfl,bp.cons b4 aW⟩
def qg(μ:bm)(l l':List (Nat×Value)):Prop:=l.length=l'.length/\∀(i:Nat) p fI,l[i]?=some p->l'[i]?=some fI->p.1=fI.1/\a3 μ p.2 fI.2
theorem qg.g6{p:Nat×Value}{l m:List (Nat×Value)}(h:qg μ (p::l) m):∃v' l',m=(p.1,v')::l'/\a3 μ p.2 v'/\qg μ l l':=by
 cases m with
 |nil=>have:=h.1;simp at this
 |cons q l'=>
  obtain⟨a,b⟩:=h.2 0 p q rfl rfl;refine⟨q.2,l',by rw[a],b,by have:=h.1;simpa using this,fun i x y j aC=>h.2 (i+1) x y (by simpa using j) (by simpa using aC)⟩
theorem Be{place:Nat->Option (Nat×Nat)}:∀{parts jt:List (Nat×Value)} {cells cells' r:List Value},qg μ parts jt->bp μ cells cells'->km place cells parts=some r->
 ∃cA,Instr.fill place cells'.toArray jt=some cA.toArray/\bp μ r cA:=by
 intro parts;induction parts with
 |nil=>
  intro jt cells cells' r ao aF he;have:jt=[]:=s8.1 (by have:=ao.1;simpa using this.symm);subst this;simp[km] at he;subst he;exact⟨cells',rfl,aF⟩
 |cons p parts aN=>
  intro jt cells cells' r ao aF he;obtain⟨v',l',rfl,U,ab⟩:=ao.g6;obtain⟨i,v⟩:=p;simp only[km] at he;cases dO:place i with
  |none=>rw[dO] at he;simp at he
  |some q=>
   obtain⟨off,size⟩:=q;rw[dO] at he;simp only at he;cases af:Nat.beq v.cells.toList.length size with
   |false=>rw[af] at he;simp at he
   |true=>
    rw[af,bH] at he;have af:=dB af;cases ag:fD off cells v.cells.toList with
    |none=>rw[ag] at he;simp at he
    |some DL=>
     rw[ag] at he;simp only at he;have aD:=U.cells;obtain⟨PM,s1,s2⟩:=Yz aF aD ag;obtain⟨cA,a,b⟩:=aN ab s2 he;refine⟨cA,?_,b⟩;obtain⟨aA,aW,cr⟩:=GX s1;have FM:=aD.1;have a0:v'.cells.size=size:=by simp at FM af;omega
     have jq:v'.cells.toList.length=v'.cells.size:=by simp
     have TM:(v'.cells.zipIdx.foldl (fun cs (x:Value×Nat)=>cs.setIfInBounds (off+x.2) x.1) cells'.toArray)=PM.toArray:=by
      rw[<-Array.foldl_toList,Array.toList_zipIdx,R8,n0];exact Yw s1
     have Bf:¬(v'.cells.size≠size):=by omega
     have vJ:¬(off+v'.cells.size>cells'.toArray.size):=by
      simp only[HZ];rw[<-jq];omega
     simp only[Instr.fill,dO];rw[a1 (by simp only[ru,A2];exact not_or.2 ⟨Bf,vJ⟩),TM];exact a
theorem Rt{t:TypeId}{parts jt:List (Nat×Value)}{v:Value}(ao:qg μ parts jt)(he:x9 P t parts=some v)(w:World):
 ∃v',(Instr.build t jt.toArray).run P w=.ok v' w/\a3 μ v v':=by
 unfold x9 at he;cases a0:fw P t with
 |none=>rw[a0] at he;simp at he
 |some z=>
  rw[a0] at he;cases hu:P.underlying t with
  |none=>rw[hu] at he;simp at he
  |some d=>
   rw[hu] at he;have nz:plain z=true->bp μ z.cells.toList z.cells.toList:=fun q=>(ll q).cells;cases d with
   |struct fields=>
    simp only at he;cases dO:plain z with
    |false=>rw[dO] at he;simp at he
    |true=>
     rw[dO,bH] at he;cases ov:places P fields.toList with
     |none=>rw[ov] at he;simp at he
     |some ps=>
      rw[ov] at he;simp only at he;cases ay:km (nth ps) z.cells.toList parts with
      |none=>rw[ay] at he;simp at he
      |some cells=>
       rw[ay] at he;simp only[bL] at he;subst he;obtain⟨cA,a,b⟩:=Be ao (nz dO) ay;obtain⟨_,hm⟩:=Xs ov;refine⟨.agg cA.toArray,?_,a3.AJ b⟩;have aE:(fun i=>ps[i]?)=nth ps:=by funext i;rw[jr]
       have e4:(Array.mapM (fun f=>Prod.mk f.offset <$> sizeOf f.type) fields:Sem (Array (Nat×Nat))).run P w=.ok ps.toArray w:=by
        rw[Ov];simp[hm]
       have bA:Instr.fill (fun x=>ps[x]?) z.cells jt=some cA.toArray:=by rw[aE];simpa using a
       simp[Instr.build,p4 a0,dH hu,e4,bA]
   |array len elem=>
    simp only at he;cases dO:plain z with
    |false=>rw[dO] at he;simp at he
    |true=>
     rw[dO,bH] at he;cases ag:dD P elem with
     |none=>rw[ag] at he;simp at he
     |some sz=>
      rw[ag] at he;simp only at he;cases ay:km (fun i=>some (i*sz,sz)) z.cells.toList parts with
      |none=>rw[ay] at he;simp at he
      |some cells=>
       rw[ay] at he;simp only[bL] at he;subst he;obtain⟨cA,a,b⟩:=Be ao (nz dO) ay;refine⟨.agg cA.toArray,?_,a3.AJ b⟩;have bA:Instr.fill (fun i=>some (i*sz,sz)) z.cells jt=some cA.toArray:=by simpa using a
       simp[Instr.build,p4 a0,dH hu,h3 ag,bA]
   |_=>simp at he
theorem Rs(h:bz P B w0 μ H w){t:TypeId}{len:Nat}{parts jt:List (Nat×Value)}{v:Value}(ao:qg μ parts jt)(he:x' P H t len parts=some (v,H')):
 ∃v' aZ a4,(Instr.buildSlice t len jt.toArray).run P w=.ok v' aZ/\bz P B w0 a4 H' aZ/\Step μ a4 H H'/\a3 a4 v v':=by
 unfold x' at he;cases hu:P.underlying t with
 |none=>rw[hu] at he;simp at he
 |some d=>
  rw[hu] at he;cases d with
  |slice elem=>
   simp only at he;cases ag:dD P elem with
   |none=>rw[ag] at he;simp at he
   |some sz=>
    rw[ag] at he;cases a0:fw P elem with
    |none=>rw[a0] at he;simp at he
    |some z=>
     rw[a0] at he;simp only at he;cases aF:(Nat.ble len 100000&&Nat.ble (len*sz) 100000&&plain z&&Nat.beq z.cells.toList.length sz) with
     |false=>rw[aF] at he;simp at he
     |true=>
      rw[aF,bH] at he;simp only[eT] at aF;obtain⟨⟨⟨lm,aQ⟩,aP⟩,bC⟩:=aF;have lm:=fV lm;have aQ:=fV aQ;have bC:=dB bC;cases ay:km (fun i=>some (i*sz,sz)) (fb z.cells.toList len) parts with
      |none=>rw[ay] at he;simp at he
      |some cells=>
       rw[ay] at he;simp only at he;cases ae:cells.all dY with
       |false=>rw[ae] at he;simp at he
       |true=>
        rw[ae,bH] at he;cases aE:oG H elem cells with
        |none=>rw[aE] at he;simp at he
        |some p=>
         obtain⟨id,H1⟩:=p;rw[aE] at he;simp only[bL,cU] at he;obtain⟨rfl,rfl⟩:=he;have nz:bp μ z.cells.toList z.cells.toList:=(ll aP).cells;have qC:bp μ (fb z.cells.toList len) (fb z.cells.toList len):=bp.w3 fun v aD=>
          Ad (p:=fun v=>a3 μ v v) aD (fun u hu=>by
           obtain⟨i,aq⟩:=vc.1 hu;exact nz.2 i u u aq aq)
         obtain⟨cA,a,b⟩:=Be ao qC ay;obtain⟨a4,L,cM,gz,mN,oF,_⟩:=Gi h b aE;refine⟨.slice (some ⟨w.heap.size,0,none⟩) len len,_,a4,?_,cM,gz,?_⟩
         ·have jq:=Ae z.cells.toList len;have UX:z.cells.size=sz:=by simpa using bC
          have EO:¬(16777216<len*sz):=by omega
          rw[bC] at jq;simp only[Ow] at jq;by_cases a2:len*sz=0
          ·have tY:fb z.cells.toList len=[]:=s8.1 (by rw[Ht,bC];exact a2);rw[tY] at a;have bA:Instr.fill (fun i=>some (i*sz,sz)) (Array.map (fun _=>(default:Value)) (Array.range 0)) jt=some cA.toArray:=by
            have h7:Array.map (fun _:Nat=>(default:Value)) (Array.range 0)=#[]:=by simp
            rw[h7];exact a
           simp[Instr.buildSlice,dH hu,h3 ag,a2,bA,newRow,newObj,Sem.run]
          ·have bA:Instr.fill (fun i=>some (i*sz,sz)) ((Array.range (len*sz)).map fun i=>z.cells[i % z.cells.size]!) jt=some cA.toArray:=by rw[jq];exact a
           simp[Instr.buildSlice,dH hu,h3 ag,EO,a2,p4 a0,bA,newRow,newObj,Sem.run]
         ·rw[<-oF];refine .kb id 0 len len L mN ?_;have:(100000:Nat)<cf:=by decide
          omega
  |_=>simp at he
end
end
end Go.Cre
namespace Go.Cre
noncomputable section
open Go.RowKit
section
variable {P:Program}{B:Nat->Prop}{w0 w:World}{μ:bm}{H H':ah}
theorem Jw{α:Type}{s:Sem α}{a:α}(h:en P s=some a)(w:World):s.run P w=.ok a w:=by
 induction s generalizing w with
 |pure b=>simp[en] at h;subst h;rfl
 |program k aN=>exact aN P (by simpa[en] using h) w
 |mark m k aN=>exact aN (by simpa[en] using h) w
 |_=>simp[en] at h
theorem bz.Oc(h:bz P B w0 μ H w){id:Nat}{L:Loc}{b b':ef}{o':Obj}(bD:μ id=some L)(ar:H.bf<=id)(hm:H.mem.get id=some b)(gf:∀c e o f z s,b≠.row c e o f z s)(ax:b≠.dead)
 (hu:H.upd id b'=some H')(nn:∀c e o f z s,b'≠.row c e o f z s)(af:hl P μ L b' o'):
 bz P B w0 μ H' {w with heap:=w.heap.setIfInBounds L.r o'}/\Step μ μ H H':=by
 obtain⟨jS,mY,p0,zX,nN⟩:=ah.rm hu;have py:H.mem.get id≠some .dead:=by rw[hm];intro q;injection q with q;exact ax q
 refine h.write bD ar py jS p0 zX (by rw[nN];simp) (fun x j=>.inl (by rw[nN,a1 j])) ?_ (fun f l aw=>.inl (by rw[mY];exact aw)) (fun f l aw=>.inl (by rw[<-mY];exact aw))
  (fun c e f z s q=>absurd q (nn _ _ _ _ _ _)) (fun q=>by
   rw[hm] at q;cases b with
   |row c e o f z s=>exact absurd rfl (gf _ _ _ _ _ _)
   |_=>simp[hM] at q) af
 intro x bn j pq ap;rcases h.sep id x L bn (Ne.symm j) bD pq ap.symm with d|d|⟨cd,l,⟨bE,aA,dw,CF,q⟩,_⟩
 ·exact absurd d py
 ·rw[nN,a1 j];exact d
 ·rw[hm] at q;injection q with q;exact absurd q (gf _ _ _ _ _ _)
end
end
end Go.Cre

/- A part of the proof of TableClose. -/
import Derived.Test.YtpahonhejmlnpaaGreatDoorCag
import Derived.Orders
set_option linter.unusedVariables false
set_option linter.unusedSimpArgs false
namespace Go.Cre
noncomputable section
open Go.RowKit
section
variable {P:Program}{B:Nat->Prop}{w0 w:World}{μ:bz}{H H':ai}
theorem afk(z:Array Value)(n:Nat):(Builtin.zeroCells z n).size=n*z.size:=by simp[Builtin.zeroCells]
theorem GW{a b bE b':List Value}{elem:TypeId}{z:Value}{sz Bk cap f dS r:Nat}{sh:Bool}{bd:bz}(aK:bF bd a bE)(ah:bF bd b b')(dA:P.cellsOf elem=sz)(a0:z.cells.toList.length=sz)(aA:(a++b).length=Bk*sz)(kO:Bk<=cap):
 ia P bd ⟨r,cap*sz,sz⟩ (.row (a++b) elem true f dS sh) (.cells (bE.toArray++(b'.toArray++Builtin.zeroCells z.cells (cap -Bk))) elem):=by
 have aL:=aK.append ah;have ot:z.cells.size=sz:=by simpa using a0
 have XK:(bE.toArray++(b'.toArray++Builtin.zeroCells z.cells (cap -Bk)))=(bE++b').toArray++Builtin.zeroCells z.cells (cap -Bk):=by
  apply oG;simp
 rw[XK];refine⟨rfl,?_,dA,?_,(fun h=>by cases h),fun i v v' a b=>?_,⟨fun off _ aa ab=>by simp at ab,fun _=>.inl rfl⟩⟩
 ·rw[Array.size_append,afk,ot];simp only[Lc];rw[<-aL.1,aA,<-iC];congr 1;omega
 ·show(a++b).length<=cap*sz;rw[aA];exact lY _ kO
 ·refine aL.2 i v v' a ?_;have ar:i<(bE++b').length:=by
   have:=(hq.1 a).1;have:=aL.1;omega
  rw[Sb (by simpa using ar)] at b;simpa using b
theorem L7{a b:Nat}(h:Nat.blt a b=false):b<=a:=by
 rcases hr a b with q|q
 ·have:=j3 q;unfold Nat.blt at h;simp_all
 ·exact q
theorem Vl(h:bL P B w0 μ H w){e1 gu dK:TypeId}{dZ:TypeDesc}{s df x dg v:Value}(af:bc μ s df)(U:bc μ x dg)(iS:P.underlying gu=some dZ)(sJ:∀k,dZ≠.int k)(he:nr P H e1 s x=some (v,H')):
 ∃v' a7 bd,(Builtin.append_ #[e1,gu] dK #[df,dg]).run P w=.ok v' a7/\bL P B w0 bd H' a7/\Step μ bd H H'/\bc bd v v':=by
 unfold nr at he;cases hu:P.underlying e1 with
 |none=>rw[hu] at he;simp at he
 |some d=>
  rw[hu] at he;cases d with
  |slice elem=>
   cases s with
   |slice base cN gX=>
    simp only at he;cases dA:ea P elem with
    |none=>rw[dA] at he;simp at he
    |some sz=>
    rw[dA] at he;cases gJ:q6 P elem with
    |none=>rw[gJ] at he;simp at he
    |some gq=>
    rw[gJ] at he;cases a0:fG P elem with
    |none=>rw[a0] at he;simp at he
    |some z=>
    rw[a0] at he;cases aw:ou x with
    |none=>rw[aw] at he;simp at he
    |some n=>
    rw[aw] at he;simp only at he;cases xN:(Nat.ble (cN+n) 1000000&&Nat.ble gq 1000000&&Nat.beq z.cells.toList.length sz) with
    |false=>rw[xN] at he;simp at he
    |true=>
    rw[xN] at he;simp only[lT,da] at he;simp only[fp] at xN;obtain⟨⟨aR,aN⟩,bG⟩:=xN;have aR:=gy aR;have aN:=gy aN;have bG:=dX bG;cases az:h1 H sz n x with
    |none=>rw[az] at he;simp at he
    |some new=>
    rw[az] at he;simp only at he;cases hd:(new.all ev&&Nat.beq new.length (n*sz)) with
    |false=>rw[hd] at he;simp at he
    |true=>
    rw[hd] at he;simp only[lT,da] at he;simp only[fp] at hd;have dd:=dX hd.2;obtain⟨ox,bI,cY⟩:=CR h U aw (c5 _) az;have hlen:=Pa (P:=P) U aw;obtain⟨i,ar,rfl⟩:=F3 gJ
    have ot:i.zero=some z:=by simpa[fG,ar] using a0
    have pb:i.size=sz:=by simpa[ea,ar] using dA
    have p':(Builtin.firstCells i.size n dg).run P w=.ok ox.toArray w:=by rw[pb];exact cY w.drawn
    have dC:(cu:Nat)=1208925819614629174706176:=rfl;by_cases x5:gX=cu
    ·subst x5;rw[gH,b1] at he;cases base with
     |none=>simp at he
     |some a=>
      obtain⟨id,off,L,e0,dx,rfl,bP,rfl,ag,_,p2⟩:=af.r2 (.inr (.inr (by decide)));simp only at he;cases hm:H.mem.get id with
      |none=>rw[hm] at he;simp at he
      |some b=>
       rw[hm] at he;cases b with
       |row cells el opn bl dS sh=>
        cases opn with
        |false=>simp at he
        |true=>
        simp only at he;cases p0:(Nat.beq el elem&&!Nat.blt id H.bp&&Nat.ble dS (off+cN*sz)) with
        |false=>rw[p0] at he;simp at he
        |true=>
        rw[p0] at he;simp only[lT,da] at he;simp only[fp,pD] at p0;obtain⟨⟨cX,cM⟩,fo⟩:=p0;have cX:=dX cX;subst cX;have cM:=L7 cM;have fo:=gy fo;obtain⟨c,f,cm,cn,cR,fk,e9,fY,fJ⟩:=h.row bP hm;have C':L.sz=sz:=by rw[<-cR];exact JQ dA
        cases hv:Nat.beq n 0 with
        |true=>
         rw[hv,b1] at he;simp only[b9,c'] at he;obtain⟨rfl,rfl⟩:=he;have hv:=dX hv;subst hv;have HR:ox=[]:=by
          have:=bI.1;rw[dd] at this;exact uZ.1 (by omega)
         subst HR;refine⟨_,w,μ,?_,h,Step.refl _ _,af⟩;have hle:cN+0<=dx:=by
          rcases p2 with⟨bn,_⟩|⟨_,bQ,_⟩|⟨_,bQ,cZ⟩<;>omega
         exact EF e1 gu dK el dZ i hu iS sJ ar (some ⟨L.r,e0,none⟩) cN dx 0 dg [] w hlen p' hle (fun a _=>rfl) (fun q=>by cases q)
        |false=>
        rw[hv,da] at he;have ag3:0<n:=by
         rcases ly n with q|q
         ·subst q;simp at hv
         ·exact q
        cases AD:Nat.beq off 0 with
        |false=>rw[AD] at he;simp at he
        |true=>
        rw[AD] at he;simp only[lT,da] at he;have AD:=dX AD;subst AD;cases hold:takeN (cN*sz) cells with
        |none=>rw[hold] at he;simp at he
        |some dk=>
        rw[hold] at he;simp only at he;obtain⟨nH,pr,aaV⟩:=yP hold;cases hg:H.bl.get bl with
        |none=>rw[hg] at he;simp at he
        |some l=>
        rw[hg] at he;simp only at he;cases xP:tK H id l with
        |none=>rw[xP] at he;simp at he
        |some p=>
        obtain⟨fM,H1⟩:=p;rw[xP] at he;simp only at he;obtain⟨a9,a4,bJ,cx,fL,iT,l7,nE,IF,pre,ahu,ZB⟩:=Ux xP;have HM:∀x,H1.mem.get x=H.mem.get x\/(H1.mem.get x=some .dead/\(iJ (H.mem.get x)=true\/H.mem.get x=some .dead)):=fun x=>by
         rcases IF x with q|q
         ·exact .inl q
         ·exact .inr ⟨q.1,(h.jC bl l x hg q.2).2⟩
        obtain⟨sC,xK⟩:=h.kill (H':=H1) a9 bJ cx HM (fun f l aA=>⟨l,by rw[a4];exact aA,cd _,fun x a b=>absurd a b⟩) (fun f l aA=>⟨l,by rw[<-a4];exact aA,cd _⟩)
        --tj dk members ad1 stay LU no IN ah0 Kn is kept
        have X9:∀y∈fM,∀c e f z s,H1.mem.get y=some (.row c e true f z s)->c.length<=cells.length:=fun y aF c e f z s q=>by
         have Ij:=sC.rk bl l (by rw[a4];exact hg);have Ib:=Ij.sublist fL;rw[ZB] at Ib aF;rcases gj.1 aF with rfl|aF
         ·rw[l7,hm] at q;injection q with q;injection q with q;subst q;exact c5 _
         ·exact(List.pairwise_cons.1 Ib).1 y aF _ _ _ _ _ _ _ _ _ _ (by rw[l7];exact hm) q
        --tj second cut
        cases cc:zL H1 fM (Nat.beq cells.length (cN*sz)) with
        |none=>rw[cc] at he;simp at he
        |some p=>
        obtain⟨fg,bK⟩:=p;rw[cc] at he;simp only at he;unfold zL at cc
        have mG:bL P B w0 μ bK w/\Step μ μ H bK/\bK.ax=H.ax/\bK.b7=H.b7/\bK.bp=H.bp/\bK.bl.get bl=some l/\fg.Sublist l/\(∀x,x∈l->x∉fg->bK.mem.get x=some .dead)/\
         (∀y∈fg,∀c e f z s,bK.mem.get y=some (.row c e true f z s)->c.length<=cN*sz)/\(∀x,bK.mem.get x=H.mem.get x\/bK.mem.get x=some .dead):=by
         cases ah:Nat.beq cells.length (cN*sz) with
         |true=>
          rw[ah,b1] at cc;simp only[b9,c'] at cc;obtain⟨rfl,rfl⟩:=cc;have ah:=dX ah;exact⟨sC,xK,a9,bJ,cx,by rw[a4];exact hg,fL,nE,fun y aF c e f z s q=>by have:=X9 y aF c e f z s q;omega,fun x=>(HM x).imp (fun q=>q) And.left⟩
         |false=>
          rw[ah,da] at cc;cases hk:pi H1 H1.ax fM with
          |none=>rw[hk] at cc;simp at cc
          |some Cc=>
           rw[hk] at cc;simp only[b9,c'] at cc;obtain⟨rfl,rfl⟩:=cc;obtain⟨bx,bX,cy,c0,cr,dY⟩:=D1 hk;have p5:∀x,x∈fM->Cc.mem.get x=some .dead:=fun x U=>cr x U (fun e=>by
            have:=(sC.jC bl l x (by rw[a4];exact hg) (fL.mem U)).1;omega)
           have HN:∀x,Cc.mem.get x=H1.mem.get x\/(Cc.mem.get x=some .dead/\(iJ (H1.mem.get x)=true\/H1.mem.get x=some .dead)):=fun x=>by
            by_cases U:x∈fM
            ·exact .inr ⟨p5 x U,(sC.jC bl l x (by rw[a4];exact hg) (fL.mem U)).2⟩
            ·exact .inl (dY x (.inl U))
           obtain⟨mG,Ab⟩:=sC.kill (H':=Cc) bx cy c0 HN (fun f l aA=>⟨l,by rw[bX];exact aA,cd _,fun x a b=>absurd a b⟩) (fun f l aA=>⟨l,by rw[<-bX];exact aA,cd _⟩);refine⟨mG,xK.trans Ab,by omega,by omega,by omega,by rw[bX,a4];exact hg,bZ _,fun x U _=>?_,fun y aF=>by simp at aF,fun x=>?_⟩
           ·by_cases nA:x∈fM
            ·exact p5 x nA
            ·have:=nE x U nA;rcases HN x with q|q
             ·rw[q];exact this
             ·exact q.1
           ·rcases HN x with q|q
            ·rw[q];exact(HM x).imp (fun q=>q) And.left
            ·exact .inr q.1
        obtain⟨mG,Ab,cE,eW,jT,mS,mT,uu,Pl,Pm⟩:=mG;cases ya:bK.oD bl (bK.ax::fg) with
        |none=>rw[ya] at he;simp at he
        |some fi=>
        rw[ya] at he;simp only at he;obtain⟨s1,s2,h',yM,qE⟩:=ai.yO ya;cases HO:fi.new (.row (dk++new) el true bl dS sh) with
        |none=>rw[HO] at he;simp at he
        |some p=>
        obtain⟨aaG,iB⟩:=p;rw[HO] at he;simp only[b9,c'] at he;obtain⟨rfl,rfl⟩:=he;obtain⟨rfl,t1,t2,t3,t4,t5⟩:=ai.mb HO;have aC:iB.ax=bK.ax+1:=by omega
        have cp:∀m,iB.mem.get m=if m=bK.ax then some (.row (dk++new) el true bl dS sh) else bK.mem.get m:=fun m=>by rw[t5,s1,s2]
        have h0:∀m,iB.bl.get m=if m=bl then some (bK.ax::fg) else bK.bl.get m:=fun m=>by rw[t2,qE]
        have l4:bl<bK.b7:=by have:=h.n4 _ _ _ _ _ _ hm;omega
        have Av:(dk++new).length=(cN+n)*sz:=by rw[g1,pr,dd,iC]
        have sV:∀y∈fg,∀c e f z s,bK.mem.get y=some (.row c e true f z s)->c.length<=(dk++new).length:=fun y aF c e f z s q=>by
         have:=Pl y aF c e f z s q;rw[g1,pr];omega
        --Kn is kept,ahW
        have HU:bF μ dk (c.toList.take (cN*sz)):=by
         have:=fY.take (cN*sz);rw[<-nH,tw,g9 aaV] at this;exact this
        rw[s1];rcases p2 with⟨bn,_⟩|⟨_,bQ,rfl,cZ⟩|⟨_,rfl,rfl⟩
        ·omega
        ·--a slice with room of ahs own,or none
         by_cases lh:cN+n<=dx
         ·--in place
          rw[C'] at cZ;have vW:(cN+n)*sz<=L.N:=by
           have:=lY sz lh;omega
          have dM:=QN (P:=P) L.r (cN*sz) el f ox 0 c w cm (by rw[<-bI.1,dd,cn];rw[iC] at vW;omega) (fun j a5=>by
           rw[<-bI.1,dd] at a5;exact M2 fJ (by rw[iC] at vW;omega) (by omega)) (Th bI hd.1)
          simp only[nT] at dM
          obtain⟨z7,sD⟩:=mG.ab' (H':=iB) (f:=bl) (id:=id) (l:=fg) (l0:=l) (cells:=dk++new) (elem:=el) (dS:=dS) (sh:=sh) (o:=.cells c el f) (o':=.cells (nJ c (cN*sz) ox) el f) (L:=L) mS mT uu l4 bP (by omega) (h.new id L bP (by omega) (by rw[hm];intro q;cases q)) aC (by omega) (by omega) cp h0 sV
           (fun y bC aF al=>by
            by_cases oa:bK.mem.get y=some .dead
            ·exact .inl oa
            ·right
             have AX:y∈l/\s3 H y bl:=by
              by_cases rK:y=id
              ·subst rK;exact⟨fL.mem iT,⟨_,_,_,_,hm⟩⟩
              ·rcases h.sep id y L bC (Ne.symm rK) bP aF al.symm with d|d|⟨cz,l',⟨bn,pP,dE,EG,q⟩,c3,db,_,Z9⟩
               ·rw[hm] at d;cases d
               ·exact absurd ((Pm y).elim (fun q=>q.trans d) (fun q=>q)) oa
               ·rw[hm] at q;injection q with q;injection q with _ _ _ q;subst q
                rw[hg] at db;injection db with db;subst db
                exact⟨Z9,c3⟩
             have OM:y∈fg:=Sg fun gD=>oa (uu y AX.1 gD);obtain⟨b,o,dm,hA,lm⟩:=mG.e6 y bC aF;have kP:bK.mem.get y=H.mem.get y:=(Pm y).resolve_right oa;obtain⟨UA,CY,afo,adR,Ey⟩:=AX.2;have ahO:=dm;rw[kP,Ey] at dm;injection dm with dm;subst dm
             have agT:=Pl y OM _ _ _ _ _ (kP.trans Ey);refine⟨⟨UA,CY,afo,adR,kP.trans Ey⟩,OM,_,kP.trans Ey,?_⟩;rw[al,cm] at hA;injection hA with hA;subst hA
             obtain⟨dE,ej,y3,y4,E3,B2,B3⟩:=lm;refine⟨dE,by rw[JT];exact ej,y3,y4,fun q=>(by cases q),fun j v v' a b=>?_,B3⟩;rw[EJ _ _ _ _ (by rw[<-bI.1,dd,cn];rw[iC] at vW;omega)] at b;have a5:=(hq.1 a).1;rw[a3 (by omega)] at b;exact B2 j v v' a b)
           (by
            refine⟨rfl,by rw[JT];exact cn,cR,by rw[Av];exact vW,fun q=>(by cases q),fun j v v' a b=>?_,fJ⟩;rw[EJ _ _ _ _ (by rw[<-bI.1,dd,cn];rw[iC] at vW;omega)] at b;rw[K3] at a;rw[pr] at a;split at a
            ·rename_i a5;rw[a3 (by omega)] at b;refine HU.2 j v v' a ?_;rw[lW,bg a5];simpa using b
            ·rename_i a5;have N0:=(hq.1 a).1;rw[bg (by rw[<-bI.1];omega)] at b;exact bI.2 _ v v' a b)
          refine⟨.slice (some ⟨L.r,0,none⟩) (cN+n) dx,_,_,?_,z7,Ab.trans sD,?_⟩
          ·exact EF e1 gu dK el dZ i hu iS sJ ar (some ⟨L.r,0,none⟩) cN dx n dg ox _ hlen p' lh (fun a q=>by
            injection q with q;subst q
            rw[Addr.nY,pb,nh];exact dM) (fun q=>by cases q)
          ·exact .m6 bK.ax 0 (cN+n) dx L (bz.iw _ _ _) lh (by rw[C'];exact cZ)
         ·--it agl
          have fK:=JJ (P:=P) (w:=w) e1 gu dK el dZ i z hu iS sJ ar ot (some ⟨L.r,0,none⟩) cN dx n dg (c.toList.take (cN*sz)) ox hlen
           (fun fw=>by
            rw[pb];refine run_firstCells_some (P:=P) {w with drawn:=fw} sz cN ⟨L.r,0,none⟩ cN dx _ (by rw[<-HU.1,pr]) (fun j v a5=>?_);rw[Addr.nY,nh];have:=cell_of_row (w:={w with drawn:=fw}) cm j;rw[this];rw[lW] at a5;split at a5
            ·simpa using a5
            ·cases a5)
           (fun fw=>by rw[pb];exact cY fw) (by omega) aR aN
          have iR:=grownCap_ge w (cN+n) dx el
          obtain⟨z7,sD⟩:=mG.drew.Qj (H':=iB) (f:=bl) (l:=fg) (l0:=l) (cells:=dk++new) (elem:=el) (dS:=dS) (sh:=sh)
           (o:=.cells ((c.toList.take (cN*sz)).toArray++(ox.toArray++Builtin.zeroCells z.cells (grownCap w (cN+n) dx el -(cN+n)))) el) (L:=⟨w.heap.size,grownCap w (cN+n) dx el*sz,sz⟩) mS mT uu l4 aC (by omega) (by omega) cp h0 sV rfl
           (GW (HU.mono (mG.rj _)) (bI.mono (mG.rj _)) (by rw[cR,C']) bG Av iR)
          refine⟨_,_,_,fK,z7,Ab.trans sD,?_⟩;exact .m6 bK.ax 0 (cN+n) _ ⟨w.heap.size,grownCap w (cN+n) dx el*sz,sz⟩ (bz.iw _ _ _) iR (by simp)
        ·--a slice aia room
         have fK:=JJ (P:=P) (w:=w) e1 gu dK el dZ i z hu iS sJ ar ot (some ⟨L.r,e0,none⟩) 0 0 n dg [] ox hlen
          (fun fw=>by simp[Builtin.firstCells,loadCells,loadCellsFrom])
          (fun fw=>by rw[pb];exact cY fw) (by omega) aR aN
         have iR:=grownCap_ge w (0+n) 0 el;have AE:dk=[]:=uZ.1 (by omega);subst AE
         obtain⟨z7,sD⟩:=mG.drew.Qj (H':=iB) (f:=bl) (l:=fg) (l0:=l) (cells:=[]++new) (elem:=el) (dS:=dS) (sh:=sh)
          (o:=.cells (([]:List Value).toArray++(ox.toArray++Builtin.zeroCells z.cells (grownCap w (0+n) 0 el -(0+n)))) el) (L:=⟨w.heap.size,grownCap w (0+n) 0 el*sz,sz⟩) mS mT uu l4 aC (by omega) (by omega) cp h0 sV rfl
          (GW (bF.nil _) (bI.mono (mG.rj _)) (by rw[cR,C']) bG Av iR)
         refine⟨_,_,_,fK,z7,Ab.trans sD,?_⟩;exact .m6 bK.ax 0 (0+n) _ ⟨w.heap.size,grownCap w (0+n) 0 el*sz,sz⟩ (bz.iw _ _ _) iR (by simp)
       |_=>simp at he
    ·rw[FY x5,da] at he
     --tj exact ahM
     have kB:∀a,base=some a->a.spot=none:=fun a q=>by
      subst q;cases q:a.spot with
      |none=>rfl
      |some k=>
       exfalso;cases az:Nat.ble (cN+n) gX with
       |true=>rw[az] at he;simp[q] at he
       |false=>rw[az] at he;simp[uw,q] at he
     have Hn:(base=none/\df=.slice none cN gX)\/(∃id off L,base=some ⟨id,off,none⟩/\μ id=some L/\df=.slice (some ⟨L.r,off,none⟩) cN gX):=by
      cases base with
      |none=>exact .inl ⟨rfl,af.pz⟩
      |some a=>
       obtain⟨id,off,L,e0,dx,rfl,bP,rfl,ag,_,p2⟩:=af.r2 (.inl (kB a rfl));rcases p2 with⟨_,rfl,rfl⟩|⟨q,_⟩|⟨q,_⟩
       ·exact .inr ⟨id,e0,L,rfl,bP,rfl⟩
       ·exact absurd q x5
       ·exact absurd q x5
     cases lh:Nat.ble (cN+n) gX with
     |true=>
      rw[lh,b1] at he;have lh:=gy lh;rcases Hn with⟨rfl,rfl⟩|⟨id,off,L,rfl,bP,rfl⟩
      ·simp only at he;cases hv:Nat.beq n 0 with
       |false=>rw[hv] at he;simp at he
       |true=>
        rw[hv,b1] at he;simp only[b9,c'] at he;obtain⟨rfl,rfl⟩:=he;have hv:=dX hv;subst hv;refine⟨_,w,μ,?_,h,Step.refl _ _,af⟩;exact EF e1 gu dK elem dZ i hu iS sJ ar none cN gX 0 dg ox w hlen p' lh (fun a q=>by cases q) (fun _=>rfl)
      ·simp only at he;cases dM:o0 H id (off+cN*sz) new with
       |none=>rw[dM] at he;simp at he
       |some H1=>
        rw[dM] at he;simp only[b9,c'] at he;obtain⟨rfl,rfl⟩:=he;obtain⟨a7,bx,bX,cy⟩:=CV h bP bI dM;refine⟨.slice (some ⟨L.r,off,none⟩) (cN+n) gX,a7,μ,?_,bX,cy,?_⟩
        ·exact EF e1 gu dK elem dZ i hu iS sJ ar (some ⟨L.r,off,none⟩) cN gX n dg ox a7 hlen p' lh (fun a q=>by
          injection q with q;subst q
          rw[Addr.nY,pb];exact bx) (fun q=>by cases q)
        ·have cD:gX<cu:=by
          obtain⟨_,_,_,_,_,_,_,_,_,_,p2⟩:=af.r2 (.inl rfl);rcases p2 with⟨q,_⟩|⟨q,_⟩|⟨q,_⟩
          ·exact q
          ·exact absurd q x5
          ·exact absurd q x5
         exact .lq id off _ _ L bP cD
     |false=>
      rw[lh,da,show uw base=true from by rcases Hn with⟨rfl,_⟩|⟨_,_,_,rfl,_⟩<;>rfl,b1] at he;have lh:gX<cN+n:=by
       rcases hr gX (cN+n) with q|q
       ·exact q
       ·rw[j3 q] at lh;cases lh
      cases hold:h1 H sz cN (.slice base cN gX) with
      |none=>rw[hold] at he;simp at he
      |some dk=>
       rw[hold] at he;simp only at he;obtain⟨PT,nH,pr⟩:=CR h af (m:=cN) rfl (c5 _) hold;cases hM:Nat.beq dk.length (cN*sz) with
       |false=>rw[hM] at he;simp at he
       |true=>
        rw[hM,b1] at he;have hM:=dX hM;unfold fresh at he;cases gD:H.lM (dk++new) elem false with
        |none=>rw[gD] at he;simp at he
        |some p=>
         obtain⟨aaG,H1⟩:=p;rw[gD] at he;simp only[b9,c'] at he;obtain⟨rfl,rfl⟩:=he;have iR:=grownCap_ge w (cN+n) gX elem;have Av:(dk++new).length=(cN+n)*sz:=by rw[g1,hM,dd,iC]
         obtain⟨bx,bX,rfl⟩:=h.drew.IR (o:=.cells (PT.toArray++(ox.toArray++Builtin.zeroCells z.cells (grownCap w (cN+n) gX elem -(cN+n)))) elem) (L:=⟨w.heap.size,grownCap w (cN+n) gX elem*sz,sz⟩) gD rfl
          (fun f=>GW (nH.mono (h.rj _)) (bI.mono (h.rj _)) (JQ dA) bG Av iR)
         have YI:∃b',df=.slice b' cN gX:=by
          rcases Hn with⟨_,q⟩|⟨_,_,_,_,_,q⟩
          ·exact⟨_,q⟩
          ·exact⟨_,q⟩
         obtain⟨b',rfl⟩:=YI
         have fK:=JJ (P:=P) (w:=w) e1 gu dK elem dZ i z hu iS sJ ar ot b' cN gX n dg PT ox hlen
          (fun fw=>by rw[pb];exact pr fw) (fun fw=>by rw[pb];exact cY fw) lh aR aN
         exact⟨_,_,_,fK,bx,bX,.m6 H.ax 0 (cN+n) _ _ (bz.iw _ _ _) iR (by simp)⟩
   |_=>simp at he
  |_=>simp at he
end
end
end Go.Cre
namespace Go.Cre
noncomputable section
open Go.RowKit
section
variable {P:Program}{B:Nat->Prop}{w0 w:World}{μ:bz}{H H':ai}
theorem Vr(h:bL P B w0 μ H w){oF e1 dK:TypeId}{d ih s df v:Value}(au:bc μ d ih)(af:bc μ s df)(he:Gx P H oF d s=some (v,H')):
 ∃v' a7,(Builtin.copy_ #[oF,e1] dK #[ih,df]).run P w=.ok v' a7/\bL P B w0 μ H' a7/\Step μ μ H H'/\bc μ v v':=by
 unfold Gx at he;cases hu:P.underlying oF with
 |none=>rw[hu] at he;simp at he
 |some t=>
  rw[hu] at he;cases t with
  |slice elem=>
   cases d with
   |slice base re af5=>
    cases aA:ou s with
    |none=>rw[aA] at he;simp at he
    |some cN=>
     rw[aA] at he;simp only at he;cases dA:ea P elem with
     |none=>rw[dA] at he;simp at he
     |some sz=>
      rw[dA] at he;simp only at he;generalize aw:(bif Nat.ble cN re then cN else re)=n at he;have Dw:Nat.min cN re=n:=by
          rw[<-aw];cases ah:Nat.ble cN re with
          |true=>have:=gy ah;simp;exact g9 this
          |false=>
           have:¬cN<=re:=fun q=>by rw[j3 q] at ah;cases ah
           simp;exact Nat.min_eq_right (by omega)
      have Dx:n<=cN:=by rw[<-Dw];exact Nat.min_le_left _ _
      cases az:h1 H sz n s with
      |none=>rw[az] at he;simp at he
      |some cells=>
       rw[az] at he;simp only at he;obtain⟨cells',bn,bQ⟩:=CR h af aA Dx az;have hlen:=Pa (P:=P) af aA;have NV:(Builtin.firstCells sz n df).run P w=.ok cells'.toArray w:=bQ w.drawn;cases base with
       |none=>
        simp only[b9,c'] at he;obtain⟨rfl,rfl⟩:=he;rw[au.pz];refine⟨.int .i64 n,w,?_,h,Step.refl _ _,.atom _ rfl⟩;simp[Builtin.copy_,ec hu,hlen,Dw,iX dA,NV,goInt]
       |some a=>
        have kB:a.spot=none:=by
         cases q:a.spot with
         |none=>rfl
         |some _=>simp[q] at he
        obtain⟨id,off,L,e0,dx,rfl,bP,rfl,ag,_,_⟩:=au.r2 (.inl kB);simp only at he;cases lg:cells.all ev with
        |false=>rw[lg] at he;simp at he
        |true=>
         rw[lg] at he;simp only[lT,da] at he;cases dM:o0 H id off cells with
         |none=>rw[dM] at he;simp at he
         |some H1=>
          rw[dM] at he;simp only[b9,c'] at he;obtain⟨rfl,rfl⟩:=he;obtain⟨a7,bx,bX,cy⟩:=CV h bP bn dM;refine⟨.int .i64 n,a7,?_,bX,cy,.atom _ rfl⟩;have YM:(storeCells ⟨L.r,e0,none⟩ cells').run P w=.ok () a7:=by
           by_cases aX:0<re
           ·rw[ag aX];exact bx
           ·have hv:n=0:=by rw[<-Dw];have:re=0:=by omega
                            rw[this];exact Nat.min_zero _
            have:cells=[]:=by
             subst hv;cases s with
             |slice b l c=>cases b with
              |none=>simp[h1] at az;exact az
              |some b=>
               simp[h1] at az;exact az
             |string s=>simp[h1,takeN] at az;exact az
             |_=>simp[ou] at aA
            subst this;have:=bn.ji;subst this;simp only[storeCells] at bx ⊢;exact bx
          simp[Builtin.copy_,ec hu,hlen,Dw,iX dA,NV,goInt,YM]
   |_=>simp at he
  |_=>simp at he
theorem Vp(h:bL P B w0 μ H w){t dK:TypeId}{x dg v:Value}(au:bc μ x dg)(he:Gv P H t x=some (v,H')):
 ∃v' a7,(Builtin.clear_ #[t] dK #[dg]).run P w=.ok v' a7/\bL P B w0 μ H' a7/\Step μ μ H H'/\bc μ v v':=by
 have Ir:bc μ (.tuple #[]) (.tuple #[]):=.tuple _ _ rfl (fun i v v' q=>by simp at q);unfold Gv at he;split at he
 ·rename_i d l c hu;simp only[b9,c'] at he;obtain⟨rfl,rfl⟩:=he;rw[au.pz];exact⟨.tuple #[],w,by simp[Builtin.clear_,ec hu],h,Step.refl _ _,Ir⟩
 ·rename_i d a c hu;simp only[b9,c'] at he;obtain⟨rfl,rfl⟩:=he;obtain⟨bE,dx,rfl⟩:=au.uH;exact⟨.tuple #[],w,by simp[Builtin.clear_,ec hu],h,Step.refl _ _,Ir⟩
 ·rename_i elem a n c hu;split at he
  ·rename_i z kB a0;cases ei:plain z with
   |false=>rw[ei] at he;cases he
   |true=>
    rw[ei,b1] at he;split at he
    ·rename_i H1 dM;simp only[b9,c'] at he;obtain⟨rfl,rfl⟩:=he;obtain⟨id,off,L,e0,dx,rfl,bP,rfl,ag,_,_⟩:=au.r2 (.inl kB);have ag:=ag (Nat.succ_pos n);subst ag;have ph:bF μ z.cells.toList z.cells.toList:=(mZ ei).cells;have sE:bF μ (eN z.cells.toList (n+1)) (eN z.cells.toList (n+1)):=bF.yN fun v ay=>by
      exact B5 (p:=fun v=>bc μ v v) ay (fun u hu=>by
       obtain⟨i,ar⟩:=w4.1 hu;exact ph.2 i u u ar ar)
     obtain⟨a7,bx,bX,cy⟩:=CV h bP sE dM;refine⟨.tuple #[],a7,?_,bX,cy,Ir⟩;have kC:=B6 z.cells.toList (n+1);have e:(Builtin.zeroCells z.cells (n+1)).toList=eN z.cells.toList (n+1):=by
      have:Builtin.zeroCells z.cells (n+1)=(eN z.cells.toList (n+1)).toArray:=by
       rw[<-kC];simp[Builtin.zeroCells]
      rw[this]
     simp[Builtin.clear_,ec hu,r3 a0,e,bx]
    ·cases he
  ·cases he
 ·cases he
theorem ab0:∀{vB:List Field} {ps:List (Nat×Nat)},places P vB=some ps->ps.length=vB.length/\∀w,(vB.mapM (fun f=>Prod.mk f.offset <$> sizeOf f.type):Sem (List (Nat×Nat))).run P w=.ok ps w:=by
 intro vB;induction vB with
 |nil=>intro ps h;simp[places] at h;subst h;exact⟨rfl,fun w=>by simp⟩
 |cons f vB aP=>
  intro ps h;simp only[places] at h;cases af:ea P f.type with
  |none=>rw[af] at h;simp at h
  |some n=>
   rw[af] at h;cases ao:places P vB with
   |none=>rw[ao] at h;simp at h
   |some r=>
    rw[ao] at h;simp only[b9] at h;subst h;obtain⟨a,b⟩:=aP ao;refine⟨by simp[a],fun w=>?_⟩;simp[K9,iX af,b]
theorem V2(vs:List Value):∀(c:Array Value) (off k:Nat),(vs.zipIdx k).foldl (fun cs (x:Value×Nat)=>cs.setIfInBounds (off+x.2) x.1) c=nJ c (off+k) vs:=by
 induction vs with
 |nil=>intro c off k;rfl
 |cons v vs aP=>intro c off k;simp only[List.zipIdx_cons,K2,nJ];rw[aP];congr 1
theorem adg{off:Nat}{cells vs CE:List Value}(h:fO off cells vs=some CE):nJ cells.toArray off vs=CE.toArray:=by
 obtain⟨aC,aZ,cJ⟩:=JU h;apply y6
 intro i;rw[EJ _ _ _ _ (by simpa using aZ)];have:=cJ i;simp only[Sy];rw[this]
theorem adi{off:Nat}{cells cells' vs k2 r:List Value}(aL:bF μ cells cells')(ay:bF μ vs k2)(h:fO off cells vs=some r):∃cg,fO off cells' k2=some cg/\bF μ r cg:=by
 induction off generalizing cells cells' r with
 |zero=>
  induction vs generalizing cells cells' k2 r with
  |nil=>
   have:=ay.ji;subst this;simp[fO] at h;subst h;exact⟨cells',by simp[fO],aL⟩
  |cons v vs aP=>
   obtain⟨v',jG,rfl,aa,ab⟩:=ay.hO;cases cells with
   |nil=>simp[fO] at h
   |cons c cs=>
    obtain⟨bw,cw,rfl,cm,cn⟩:=aL.hO;simp only[fO] at h ⊢;cases af:fO 0 cs vs with
    |none=>rw[af] at h;simp at h
    |some px=>
     rw[af] at h;simp only[b9] at h;subst h;obtain⟨cg,aC,aZ⟩:=aP ab cn af;rw[aC];exact⟨v'::cg,rfl,bF.cons aa aZ⟩
 |succ n aP=>
  cases cells with
  |nil=>simp[fO] at h
  |cons c cs=>
   obtain⟨bw,cw,rfl,cm,cn⟩:=aL.hO;simp only[fO] at h ⊢;cases af:fO n cs vs with
   |none=>rw[af] at h;simp at h
   |some px=>
    rw[af] at h;simp only[b9] at h;subst h;obtain⟨cg,aC,aZ⟩:=aP cn af;rw[aC];exact⟨bw::cg,rfl,bF.cons cm aZ⟩
def si(μ:bz)(l l':List (Nat×Value)):Prop:=l.length=l'.length/\∀(i:Nat) p gg,l[i]?=some p->l'[i]?=some gg->p.1=gg.1/\bc μ p.2 gg.2
theorem si.hO{p:Nat×Value}{l m:List (Nat×Value)}(h:si μ (p::l) m):∃v' l',m=(p.1,v')::l'/\bc μ p.2 v'/\si μ l l':=by
 cases m with
 |nil=>have:=h.1;simp at this
 |cons q l'=>
  obtain⟨a,b⟩:=h.2 0 p q rfl rfl;refine⟨q.2,l',by rw[a],b,by have:=h.1;simpa using this,fun i x y U aF=>h.2 (i+1) x y (by simpa using U) (by simpa using aF)⟩
theorem C1{place:Nat->Option (Nat×Nat)}:∀{parts kF:List (Nat×Value)} {cells cells' r:List Value},si μ parts kF->bF μ cells cells'->lc place cells parts=some r->
 ∃cg,Instr.fill place cells'.toArray kF=some cg.toArray/\bF μ r cg:=by
 intro parts;induction parts with
 |nil=>
  intro kF cells cells' r ao aL he;have:kF=[]:=uZ.1 (by have:=ao.1;simpa using this.symm);subst this;simp[lc] at he;subst he;exact⟨cells',rfl,aL⟩
 |cons p parts aP=>
  intro kF cells cells' r ao aL he;obtain⟨v',l',rfl,aa,ab⟩:=ao.hO;obtain⟨i,v⟩:=p;simp only[lc] at he;cases ei:place i with
  |none=>rw[ei] at he;simp at he
  |some q=>
   obtain⟨off,size⟩:=q;rw[ei] at he;simp only at he;cases ah:Nat.beq v.cells.toList.length size with
   |false=>rw[ah] at he;simp at he
   |true=>
    rw[ah,b1] at he;have ah:=dX ah;cases af:fO off cells v.cells.toList with
    |none=>rw[af] at he;simp at he
    |some CE=>
     rw[af] at he;simp only at he;have ay:=aa.cells;obtain⟨TE,s1,s2⟩:=adi aL ay af;obtain⟨cg,a,b⟩:=aP ab s2 he;refine⟨cg,?_,b⟩;obtain⟨aC,aZ,cJ⟩:=JU s1;have sX:=ay.1;have a0:v'.cells.size=size:=by simp at sX ah;omega
     have kC:v'.cells.toList.length=v'.cells.size:=by simp
     have XS:(v'.cells.zipIdx.foldl (fun cs (x:Value×Nat)=>cs.setIfInBounds (off+x.2) x.1) cells'.toArray)=TE.toArray:=by
      rw[<-Array.foldl_toList,Array.toList_zipIdx,V2,nT];exact adg s1
     have C4:¬(v'.cells.size≠size):=by omega
     have xD:¬(off+v'.cells.size>cells'.toArray.size):=by
      simp only[Lc];rw[<-kC];omega
     simp only[Instr.fill,ei];rw[a3 (by simp only[tr,CO];exact not_or.2 ⟨C4,xD⟩),XS];exact a
theorem Vn{t:TypeId}{parts kF:List (Nat×Value)}{v:Value}(ao:si μ parts kF)(he:zS P t parts=some v)(w:World):
 ∃v',(Instr.build t kF.toArray).run P w=.ok v' w/\bc μ v v':=by
 unfold zS at he;cases a0:fG P t with
 |none=>rw[a0] at he;simp at he
 |some z=>
  rw[a0] at he;cases hu:P.underlying t with
  |none=>rw[hu] at he;simp at he
  |some d=>
   rw[hu] at he;have ph:plain z=true->bF μ z.cells.toList z.cells.toList:=fun q=>(mZ q).cells;cases d with
   |struct fields=>
    simp only at he;cases ei:plain z with
    |false=>rw[ei] at he;simp at he
    |true=>
     rw[ei,b1] at he;cases x6:places P fields.toList with
     |none=>rw[x6] at he;simp at he
     |some ps=>
      rw[x6] at he;simp only at he;cases az:lc (nth ps) z.cells.toList parts with
      |none=>rw[az] at he;simp at he
      |some cells=>
       rw[az] at he;simp only[b9] at he;subst he;obtain⟨cg,a,b⟩:=C1 ao (ph ei) az;obtain⟨_,hm⟩:=ab0 x6;refine⟨.agg cg.toArray,?_,bc.Cx b⟩;have aw:(fun i=>ps[i]?)=nth ps:=by funext i;rw[jU]
       have fK:(Array.mapM (fun f=>Prod.mk f.offset <$> sizeOf f.type) fields:Sem (Array (Nat×Nat))).run P w=.ok ps.toArray w:=by
        rw[Sd];simp[hm]
       have bE:Instr.fill (fun x=>ps[x]?) z.cells kF=some cg.toArray:=by rw[aw];simpa using a
       simp[Instr.build,r3 a0,ec hu,fK,bE]
   |array len elem=>
    simp only at he;cases ei:plain z with
    |false=>rw[ei] at he;simp at he
    |true=>
     rw[ei,b1] at he;cases af:ea P elem with
     |none=>rw[af] at he;simp at he
     |some sz=>
      rw[af] at he;simp only at he;cases az:lc (fun i=>some (i*sz,sz)) z.cells.toList parts with
      |none=>rw[az] at he;simp at he
      |some cells=>
       rw[az] at he;simp only[b9] at he;subst he;obtain⟨cg,a,b⟩:=C1 ao (ph ei) az;refine⟨.agg cg.toArray,?_,bc.Cx b⟩;have bE:Instr.fill (fun i=>some (i*sz,sz)) z.cells kF=some cg.toArray:=by simpa using a
       simp[Instr.build,r3 a0,ec hu,iX af,bE]
   |_=>simp at he
theorem Vm(h:bL P B w0 μ H w){t:TypeId}{len:Nat}{parts kF:List (Nat×Value)}{v:Value}(ao:si μ parts kF)(he:zT P H t len parts=some (v,H')):
 ∃v' a7 bd,(Instr.buildSlice t len kF.toArray).run P w=.ok v' a7/\bL P B w0 bd H' a7/\Step μ bd H H'/\bc bd v v':=by
 unfold zT at he;cases hu:P.underlying t with
 |none=>rw[hu] at he;simp at he
 |some d=>
  rw[hu] at he;cases d with
  |slice elem=>
   simp only at he;cases af:ea P elem with
   |none=>rw[af] at he;simp at he
   |some sz=>
    rw[af] at he;cases a0:fG P elem with
    |none=>rw[a0] at he;simp at he
    |some z=>
     rw[a0] at he;simp only at he;cases aL:(Nat.ble len 100000&&Nat.ble (len*sz) 100000&&plain z&&Nat.beq z.cells.toList.length sz) with
     |false=>rw[aL] at he;simp at he
     |true=>
      rw[aL,b1] at he;simp only[fp] at aL;obtain⟨⟨⟨m1,aR⟩,aN⟩,bG⟩:=aL;have m1:=gy m1;have aR:=gy aR;have bG:=dX bG;cases az:lc (fun i=>some (i*sz,sz)) (eN z.cells.toList len) parts with
      |none=>rw[az] at he;simp at he
      |some cells=>
       rw[az] at he;simp only at he;cases ag:cells.all ev with
       |false=>rw[ag] at he;simp at he
       |true=>
        rw[ag,b1] at he;cases aw:qn H elem cells with
        |none=>rw[aw] at he;simp at he
        |some p=>
         obtain⟨id,H1⟩:=p;rw[aw] at he;simp only[b9,c'] at he;obtain⟨rfl,rfl⟩:=he;have ph:bF μ z.cells.toList z.cells.toList:=(mZ aN).cells;have sE:bF μ (eN z.cells.toList len) (eN z.cells.toList len):=bF.yN fun v ay=>
          B5 (p:=fun v=>bc μ v v) ay (fun u hu=>by
           obtain⟨i,ar⟩:=w4.1 hu;exact ph.2 i u u ar ar)
         obtain⟨cg,a,b⟩:=C1 ao sE az;obtain⟨bd,L,cE,eW,jT,mS,_⟩:=I4 h b aw;refine⟨.slice (some ⟨w.heap.size,0,none⟩) len len,_,bd,?_,cE,eW,?_⟩
         ·have kC:=B6 z.cells.toList len;have Zh:z.cells.size=sz:=by simpa using bG
          have Hp:¬(16777216<len*sz):=by omega
          rw[bG] at kC;simp only[Se] at kC;by_cases aX:len*sz=0
          ·have sL:eN z.cells.toList len=[]:=uZ.1 (by rw[Kz,bG];exact aX);rw[sL] at a;have bE:Instr.fill (fun i=>some (i*sz,sz)) (Array.map (fun _=>(default:Value)) (Array.range 0)) kF=some cg.toArray:=by
            have ku:Array.map (fun _:Nat=>(default:Value)) (Array.range 0)=#[]:=by simp
            rw[ku];exact a
           simp[Instr.buildSlice,ec hu,iX af,aX,bE,newRow,newObj,Sem.run]
          ·have bE:Instr.fill (fun i=>some (i*sz,sz)) ((Array.range (len*sz)).map fun i=>z.cells[i % z.cells.size]!) kF=some cg.toArray:=by rw[kC];exact a
           simp[Instr.buildSlice,ec hu,iX af,Hp,aX,r3 a0,bE,newRow,newObj,Sem.run]
         ·rw[<-mS];refine .lq id 0 len len L jT ?_;have:(100000:Nat)<cu:=by decide
          omega
  |_=>simp at he
end
end
end Go.Cre
namespace Go.Cre
noncomputable section
open Go.RowKit
section
variable {P:Program}{B:Nat->Prop}{w0 w:World}{μ:bz}{H H':ai}
theorem MV{α:Type}{s:Sem α}{a:α}(h:eJ P s=some a)(w:World):s.run P w=.ok a w:=by
 induction s generalizing w with
 |pure b=>simp[eJ] at h;subst h;rfl
 |program k aP=>exact aP P (by simpa[eJ] using h) w
 |mark m k aP=>exact aP (by simpa[eJ] using h) w
 |_=>simp[eJ] at h
theorem bL.RY(h:bL P B w0 μ H w){id:Nat}{L:Loc}{b b':eF}{o':Obj}(bP:μ id=some L)(aq:H.bp<=id)(hm:H.mem.get id=some b)(fC:∀c e o f z s,b≠.row c e o f z s)(au:b≠.dead)
 (hu:H.upd id b'=some H')(kM:∀c e o f z s,b'≠.row c e o f z s)(ah:ia P μ L b' o'):
 bL P B w0 μ H' {w with heap:=w.heap.setIfInBounds L.r o'}/\Step μ μ H H':=by
 obtain⟨jl,jJ,pA,BR,pB⟩:=ai.nK hu;have rC:H.mem.get id≠some .dead:=by rw[hm];intro q;injection q with q;exact au q
 refine h.write bP aq rC jl pA BR (by rw[pB];simp) (fun x U=>.inl (by rw[pB,a3 U])) ?_ (fun f l aA=>.inl (by rw[jJ];exact aA)) (fun f l aA=>.inl (by rw[<-jJ];exact aA))
  (fun c e f z s q=>absurd q (kM _ _ _ _ _ _)) (fun q=>by
   rw[hm] at q;cases b with
   |row c e o f z s=>exact absurd rfl (fC _ _ _ _ _ _)
   |_=>simp[iJ] at q) ah
 intro x bC U rr al;rcases h.sep id x L bC (Ne.symm U) bP rr al.symm with d|d|⟨cz,l,⟨bn,aC,dE,EG,q⟩,_⟩
 ·exact absurd d rC
 ·rw[pB,a3 U];exact d
 ·rw[hm] at q;injection q with q;exact absurd q (fC _ _ _ _ _ _)
end
end
end Go.Cre

/- A part of the proof of TableLosses. -/
import Derived.Test.YtjbbbehaciogcaaGreatDoorCad
import Derived.Orders
import Derived.Laws.BytesString
import Derived.Laws.BytesArg
import Derived.Lib.UnsafeStr
set_option linter.unusedVariables false
set_option linter.unusedSimpArgs false
namespace Go.Cre
noncomputable section
open Go.RowKit
section
variable {P:Program}{B:Nat->Prop}{w0 w:World}{μ:bY}{H H':ar}
theorem axt(z:Array Value)(n:Nat):(Builtin.zeroCells z n).size=n*z.size:=by simp[Builtin.zeroCells]
theorem Ri{a b b0 b':List Value}{elem:TypeId}{z:Value}{sz Jk cap f d' r:Nat}{sh:Bool}{bh:bY}(aF:b3 bh a b0)(ai:b3 bh b b')(eb:P.cellsOf elem=sz)(aM:z.cells.toList.length=sz)(aq:(a++b).length=Jk*sz)(pd:Jk<=cap):
 kf P bh ⟨r,cap*sz,sz⟩ (.row (a++b) elem true f d' sh) (.cells (b0.toArray++(b'.toArray++Builtin.zeroCells z.cells (cap -Jk))) elem):=by
 have aC:=aF.append ai;have oM:z.cells.size=sz:=by simpa using aM
 have ano:(b0.toArray++(b'.toArray++Builtin.zeroCells z.cells (cap -Jk)))=(b0++b').toArray++Builtin.zeroCells z.cells (cap -Jk):=by
  apply rv;simp
 rw[ano];refine⟨rfl,?_,eb,?_,(fun h=>by cases h),fun i v v' a b=>?_,⟨fun off _ ad ae=>by simp at ae,fun _=>.inl rfl⟩⟩
 ·rw[Array.size_append,axt,oM];simp only[We];rw[<-aC.1,aq,<-c6];congr 1;omega
 ·show(a++b).length<=cap*sz;rw[aq];exact fq _ pd
 ·refine aC.2 i v v' a ?_;have ak:i<(b0++b').length:=by
   have:=(ff.1 a).1;have:=aC.1;omega
  rw[afm (by simpa using ak)] at b;simpa using b
theorem W9{a b:Nat}(h:Nat.blt a b=false):b<=a:=by
 rcases hH a b with q|q
 ·have:=mo q;unfold Nat.blt at h;simp_all
 ·exact q
theorem aj9(h:b8 P B w0 μ H w){ts h1 dH:TypeId}{eK:TypeDesc}{s cM x dV v:Value}(hs:bj μ s cM)(aa:bj μ x dV)(k3:P.underlying h1=some eK)(sW:∀k,eK≠.int k)(he:qR P H ts s x=some (v,H')):
 ∃v' a8 bh,(Builtin.append_ #[ts,h1] dH #[cM,dV]).run P w=.ok v' a8/\b8 P B w0 bh H' a8/\Step μ bh H H'/\bj bh v v':=by
 unfold qR at he;cases hu:P.underlying ts with
 |none=>rw[hu] at he;simp at he
 |some d=>
  rw[hu] at he;cases d with
  |slice elem=>
   cases s with
   |slice base dd iI=>
    simp only at he;cases eb:eV P elem with
    |none=>rw[eb] at he;simp at he
    |some sz=>
    rw[eb] at he;cases h9:vF P elem with
    |none=>rw[h9] at he;simp at he
    |some ju=>
    rw[h9] at he;cases aM:hA P elem with
    |none=>rw[aM] at he;simp at he
    |some z=>
    rw[aM] at he;cases aE:r5 x with
    |none=>rw[aE] at he;simp at he
    |some n=>
    rw[aE] at he;simp only at he;cases p5:(Nat.ble (dd+n) 1000000&&Nat.ble ju 1000000&&Nat.beq z.cells.toList.length sz) with
    |false=>rw[p5] at he;simp at he
    |true=>
    rw[p5] at he;simp only[nM,dK] at he;simp only[gr] at p5;obtain⟨⟨aL,aG⟩,bt⟩:=p5;have aL:=h3 aL;have aG:=h3 aG;have bt:=ez bt;cases aA:j4 H sz n x with
    |none=>rw[aA] at he;simp at he
    |some new=>
    rw[aA] at he;simp only at he;cases gm:(new.all fh&&Nat.beq new.length (n*sz)) with
    |false=>rw[gm] at he;simp at he
    |true=>
    rw[gm] at he;simp only[nM,dK] at he;simp only[gr] at gm;have du:=ez gm.2;obtain⟨r7,b1,df⟩:=LF h aa aE (bU _) aA;have hlen:=aaU (P:=P) aa aE;obtain⟨i,ak,rfl⟩:=PW h9
    have oM:i.zero=some z:=by simpa[hA,ak] using aM
    have s5:i.size=sz:=by simpa[eV,ak] using eb
    have uy:(Builtin.firstCells i.size n dV).run P w=.ok r7.toArray w:=by rw[s5];exact df w.drawn
    have eu:(cO:Nat)=1208925819614629174706176:=rfl;by_cases EV:iI=cO
    ·subst EV;rw[hT,cd] at he;cases base with
     |none=>simp at he
     |some a=>
      obtain⟨id,off,L,gw,ek,rfl,a9,rfl,ah,_,uo⟩:=hs.wW (.inr (.inr (by decide)));simp only at he;cases hm:H.mem.get id with
      |none=>rw[hm] at he;simp at he
      |some b=>
       rw[hm] at he;cases b with
       |row cells el opn bF d' sh=>
        cases opn with
        |false=>simp at he
        |true=>
        simp only at he;cases qZ:(Nat.beq el elem&&!Nat.blt id H.bL&&Nat.ble d' (off+dd*sz)) with
        |false=>rw[qZ] at he;simp at he
        |true=>
        rw[qZ] at he;simp only[nM,dK] at he;simp only[gr,sm] at qZ;obtain⟨⟨dq,c2⟩,fp⟩:=qZ;have dq:=ez dq;subst dq;have c2:=W9 c2;have fp:=h3 fp;obtain⟨c,f,b4,bZ,cH,fX,gf,hc,gU⟩:=h.row a9 hm;have L2:L.sz=sz:=by rw[<-cH];exact UR eb
        cases j7:Nat.beq n 0 with
        |true=>
         rw[j7,cd] at he;simp only[cn,dr] at he;obtain⟨rfl,rfl⟩:=he;have j7:=ez j7;subst j7;have St:r7=[]:=by
          have:=b1.1;rw[du] at this;exact w'.1 (by omega)
         subst St;refine⟨_,w,μ,?_,h,Step.refl _ _,hs⟩;have hle:dd+0<=ek:=by
          rcases uo with⟨bb,_⟩|⟨_,br,_⟩|⟨_,br,cc⟩<;>omega
         exact NW ts h1 dH el eK i hu k3 sW ak (some ⟨L.r,gw,none⟩) dd ek 0 dV [] w hlen uy hle (fun a _=>rfl) (fun q=>by cases q)
        |false=>
        rw[j7,dK] at he;have azH:0<n:=by
         rcases jq n with q|q
         ·subst q;simp at j7
         ·exact q
        cases It:Nat.beq off 0 with
        |false=>rw[It] at he;simp at he
        |true=>
        rw[It] at he;simp only[nM,dK] at he;have It:=ez It;subst It;cases hold:takeN (dd*sz) cells with
        |none=>rw[hold] at he;simp at he
        |some ed=>
        rw[hold] at he;simp only at he;obtain⟨FD,FE,arK⟩:=F0 hold;cases jz:H.bF.get bF with
        |none=>rw[jz] at he;simp at he
        |some l=>
        rw[jz] at he;simp only at he;cases EH:zH H id l with
        |none=>rw[EH] at he;simp at he
        |some p=>
        obtain⟨ec,H1⟩:=p;rw[EH] at he;simp only at he;obtain⟨aW,aT,bo,cu,fm,iG,pk,qk,To,pre,az5,apM⟩:=aiN EH;have Sn:∀x,H1.mem.get x=H.mem.get x\/(H1.mem.get x=some .dead/\(kI (H.mem.get x)=true\/H.mem.get x=some .dead)):=fun x=>by
         rcases To x with q|q
         ·exact .inl q
         ·exact .inr ⟨q.1,(h.lK bF l x jz q.2).2⟩
        obtain⟨HP,BS⟩:=h.kill (H':=H1) aW bo cu Sn (fun f l aq=>⟨l,by rw[aT];exact aq,iZ _,fun x a b=>absurd a b⟩) (fun f l aq=>⟨l,by rw[<-aT];exact aq,iZ _⟩)
        --tq ed members avD stay agM no TA aA6 Ol is kept
        have anV:∀y∈ec,∀c e f z s,H1.mem.get y=some (.row c e true f z s)->c.length<=cells.length:=fun y ap c e f z s q=>by
         have aoE:=HP.vW bF l (by rw[aT];exact jz);have m7:=aoE.sublist fm;rw[apM] at m7 ap;rcases gj.1 ap with rfl|ap
         ·rw[pk,hm] at q;injection q with q;injection q with q;subst q;exact bU _
         ·exact(List.pairwise_cons.1 m7).1 y ap _ _ _ _ _ _ _ _ _ _ (by rw[pk];exact hm) q
        --tq second cut
        cases bQ:Ha H1 ec (Nat.beq cells.length (dd*sz)) with
        |none=>rw[bQ] at he;simp at he
        |some p=>
        obtain⟨dA,bW⟩:=p;rw[bQ] at he;simp only at he;unfold Ha at bQ
        have ug:b8 P B w0 μ bW w/\Step μ μ H bW/\bW.an=H.an/\bW.cy=H.cy/\bW.bL=H.bL/\bW.bF.get bF=some l/\dA.Sublist l/\(∀x,x∈l->x∉dA->bW.mem.get x=some .dead)/\
         (∀y∈dA,∀c e f z s,bW.mem.get y=some (.row c e true f z s)->c.length<=dd*sz)/\(∀x,bW.mem.get x=H.mem.get x\/bW.mem.get x=some .dead):=by
         cases ai:Nat.beq cells.length (dd*sz) with
         |true=>
          rw[ai,cd] at bQ;simp only[cn,dr] at bQ;obtain⟨rfl,rfl⟩:=bQ;have ai:=ez ai;exact⟨HP,BS,aW,bo,cu,by rw[aT];exact jz,fm,qk,fun y ap c e f z s q=>by have:=anV y ap c e f z s q;omega,fun x=>(Sn x).imp (fun q=>q) And.left⟩
         |false=>
          rw[ai,dK] at bQ;cases hk:ta H1 H1.an ec with
          |none=>rw[hk] at bQ;simp at bQ
          |some KB=>
           rw[hk] at bQ;simp only[cn,dr] at bQ;obtain⟨rfl,rfl⟩:=bQ;obtain⟨ba,bd,cm,cQ,dw,e0⟩:=MV hk;have uv:∀x,x∈ec->KB.mem.get x=some .dead:=fun x aa=>dw x aa (fun e=>by
            have:=(HP.lK bF l x (by rw[aT];exact jz) (fm.mem aa)).1;omega)
           have So:∀x,KB.mem.get x=H1.mem.get x\/(KB.mem.get x=some .dead/\(kI (H1.mem.get x)=true\/H1.mem.get x=some .dead)):=fun x=>by
            by_cases aa:x∈ec
            ·exact .inr ⟨uv x aa,(HP.lK bF l x (by rw[aT];exact jz) (fm.mem aa)).2⟩
            ·exact .inl (e0 x (.inl aa))
           obtain⟨ug,qY⟩:=HP.kill (H':=KB) ba cm cQ So (fun f l aq=>⟨l,by rw[bd];exact aq,iZ _,fun x a b=>absurd a b⟩) (fun f l aq=>⟨l,by rw[<-bd];exact aq,iZ _⟩);refine⟨ug,BS.trans qY,by omega,by omega,by omega,by rw[bd,aT];exact jz,i' _,fun x aa _=>?_,fun y ap=>by simp at ap,fun x=>?_⟩
           ·by_cases hr:x∈ec
            ·exact uv x hr
            ·have:=qk x aa hr;rcases So x with q|q
             ·rw[q];exact this
             ·exact q.1
           ·rcases So x with q|q
            ·rw[q];exact(Sn x).imp (fun q=>q) And.left
            ·exact .inr q.1
        obtain⟨ug,qY,cW,eE,mF,tc,wE,I',TH,TI⟩:=ug;cases SO:bW.se bF (bW.an::dA) with
        |none=>rw[SO] at he;simp at he
        |some fx=>
        rw[SO] at he;simp only at he;obtain⟨s1,s2,gN,mM,rk⟩:=ar.FW SO;cases Sr:fx.new (.row (ed++new) el true bF d' sh) with
        |none=>rw[Sr] at he;simp at he
        |some p=>
        obtain⟨arp,kB⟩:=p;rw[Sr] at he;simp only[cn,dr] at he;obtain⟨rfl,rfl⟩:=he;obtain⟨rfl,t1,t2,t3,t4,t5⟩:=ar.pp Sr;have ax:kB.an=bW.an+1:=by omega
        have cx:∀m,kB.mem.get m=if m=bW.an then some (.row (ed++new) el true bF d' sh) else bW.mem.get m:=fun m=>by rw[t5,s1,s2]
        have iu:∀m,kB.bF.get m=if m=bF then some (bW.an::dA) else bW.bF.get m:=fun m=>by rw[t2,rk]
        have pf:bF<bW.cy:=by have:=h.rM _ _ _ _ _ _ hm;omega
        have Ik:(ed++new).length=(dd+n)*sz:=by rw[eX,FE,du,c6]
        have yg:∀y∈dA,∀c e f z s,bW.mem.get y=some (.row c e true f z s)->c.length<=(ed++new).length:=fun y ap c e f z s q=>by
         have:=TH y ap c e f z s q;rw[eX,FE];omega
        --Ol is kept,aA0
        have Sy:b3 μ ed (c.toList.take (dd*sz)):=by
         have:=hc.take (dd*sz);rw[<-FD,su,g6 arK] at this;exact this
        rw[s1];rcases uo with⟨bb,_⟩|⟨_,br,rfl,cc⟩|⟨_,rfl,rfl⟩
        ·omega
        ·--a slice with room of az3 own,or none
         by_cases n2:dd+n<=ek
         ·--in place
          rw[L2] at cc;have Ck:(dd+n)*sz<=L.N:=by
           have:=fq sz n2;omega
          have dB:=ado (P:=P) L.r (dd*sz) el f r7 0 c w b4 (by rw[<-b1.1,du,bZ];rw[c6] at Ck;omega) (fun j aX=>by
           rw[<-b1.1,du] at aX;exact Yo gU (by rw[c6] at Ck;omega) (by omega)) (agB b1 gm.1)
          simp only[iD] at dB
          obtain⟨HQ,x1⟩:=ug.asZ (H':=kB) (f:=bF) (id:=id) (l:=dA) (l0:=l) (cells:=ed++new) (elem:=el) (d':=d') (sh:=sh) (o:=.cells c el f) (o':=.cells (rl c (dd*sz) r7) el f) (L:=L) tc wE I' pf a9 (by omega) (h.new id L a9 (by omega) (by rw[hm];intro q;cases q)) ax (by omega) (by omega) cx iu yg
           (fun y bX ap ao=>by
            by_cases rR:bW.mem.get y=some .dead
            ·exact .inl rR
            ·right
             have yo:y∈l/\yv H y bF:=by
              by_cases wv:y=id
              ·subst wv;exact⟨fm.mem iG,⟨_,_,_,_,hm⟩⟩
              ·rcases h.sep id y L bX (Ne.symm wv) a9 ap ao.symm with d|d|⟨cF,l',⟨bb,xP,e',NX,q⟩,dG,dQ,_,aqT⟩
               ·rw[hm] at d;cases d
               ·exact absurd ((TI y).elim (fun q=>q.trans d) (fun q=>q)) rR
               ·rw[hm] at q;injection q with q;injection q with _ _ _ q;subst q
                rw[jz] at dQ;injection dQ with dQ;subst dQ
                exact⟨aqT,dG⟩
             have aak:y∈dA:=jD fun e6=>rR (I' y yo.1 e6);obtain⟨b,o,dg,gp,lu⟩:=ug.gC y bX ap;have fJ:bW.mem.get y=H.mem.get y:=(TI y).resolve_right rR;obtain⟨aiR,qU,axv,avp,NO⟩:=yo.2;have aAJ:=dg;rw[fJ,NO] at dg;injection dg with dg;subst dg
             have anY:=TH y aak _ _ _ _ _ (fJ.trans NO);refine⟨⟨aiR,qU,axv,avp,fJ.trans NO⟩,aak,_,fJ.trans NO,?_⟩;rw[ao,b4] at gp;injection gp with gp;subst gp
             obtain⟨e',fj,pA,Ge,Gf,Ko,Kp⟩:=lu;refine⟨e',by rw[UU];exact fj,pA,Ge,fun q=>(by cases q),fun j v v' a b=>?_,Kp⟩;rw[N0 _ _ _ _ (by rw[<-b1.1,du,bZ];rw[c6] at Ck;omega)] at b;have aX:=(ff.1 a).1;rw[aQ (by omega)] at b;exact Ko j v v' a b)
           (by
            refine⟨rfl,by rw[UU];exact bZ,cH,by rw[Ik];exact Ck,fun q=>(by cases q),fun j v v' a b=>?_,gU⟩;rw[N0 _ _ _ _ (by rw[<-b1.1,du,bZ];rw[c6] at Ck;omega)] at b;rw[V3] at a;rw[FE] at a;split at a
            ·rename_i aX;rw[aQ (by omega)] at b;refine Sy.2 j v v' a ?_;rw[jY,aV aX];simpa using b
            ·rename_i aX;have Zo:=(ff.1 a).1;rw[aV (by rw[<-b1.1];omega)] at b;exact b1.2 _ v v' a b)
          refine⟨.slice (some ⟨L.r,0,none⟩) (dd+n) ek,_,_,?_,HQ,qY.trans x1,?_⟩
          ·exact NW ts h1 dH el eK i hu k3 sW ak (some ⟨L.r,0,none⟩) dd ek n dV r7 _ hlen uy n2 (fun a q=>by
            injection q with q;subst q
            rw[Addr.rG,s5,j2];exact dB) (fun q=>by cases q)
          ·exact .qA bW.an 0 (dd+n) ek L (bY.kw _ _ _) n2 (by rw[L2];exact cc)
         ·--it ayB
          have g8:=UF (P:=P) (w:=w) ts h1 dH el eK i z hu k3 sW ak oM (some ⟨L.r,0,none⟩) dd ek n dV (c.toList.take (dd*sz)) r7 hlen
           (fun gF=>by
            rw[s5];refine run_firstCells_some (P:=P) {w with drawn:=gF} sz dd ⟨L.r,0,none⟩ dd ek _ (by rw[<-Sy.1,FE]) (fun j v aX=>?_);rw[Addr.rG,j2];have:=cell_of_row (w:={w with drawn:=gF}) b4 j;rw[this];rw[jY] at aX;split at aX
            ·simpa using aX
            ·cases aX)
           (fun gF=>by rw[s5];exact df gF) (by omega) aL aG
          have jl:=grownCap_ge w (dd+n) ek el
          obtain⟨HQ,x1⟩:=ug.drew.acM (H':=kB) (f:=bF) (l:=dA) (l0:=l) (cells:=ed++new) (elem:=el) (d':=d') (sh:=sh)
           (o:=.cells ((c.toList.take (dd*sz)).toArray++(r7.toArray++Builtin.zeroCells z.cells (grownCap w (dd+n) ek el -(dd+n)))) el) (L:=⟨w.heap.size,grownCap w (dd+n) ek el*sz,sz⟩) tc wE I' pf ax (by omega) (by omega) cx iu yg rfl
           (Ri (Sy.mono (ug.vV _)) (b1.mono (ug.vV _)) (by rw[cH,L2]) bt Ik jl)
          refine⟨_,_,_,g8,HQ,qY.trans x1,?_⟩;exact .qA bW.an 0 (dd+n) _ ⟨w.heap.size,grownCap w (dd+n) ek el*sz,sz⟩ (bY.kw _ _ _) jl (by simp)
        ·--a slice aBh room
         have g8:=UF (P:=P) (w:=w) ts h1 dH el eK i z hu k3 sW ak oM (some ⟨L.r,gw,none⟩) 0 0 n dV [] r7 hlen
          (fun gF=>by simp[Builtin.firstCells,loadCells,loadCellsFrom])
          (fun gF=>by rw[s5];exact df gF) (by omega) aL aG
         have jl:=grownCap_ge w (0+n) 0 el;have an7:ed=[]:=w'.1 (by omega);subst an7
         obtain⟨HQ,x1⟩:=ug.drew.acM (H':=kB) (f:=bF) (l:=dA) (l0:=l) (cells:=[]++new) (elem:=el) (d':=d') (sh:=sh)
          (o:=.cells (([]:List Value).toArray++(r7.toArray++Builtin.zeroCells z.cells (grownCap w (0+n) 0 el -(0+n)))) el) (L:=⟨w.heap.size,grownCap w (0+n) 0 el*sz,sz⟩) tc wE I' pf ax (by omega) (by omega) cx iu yg rfl
          (Ri (b3.nil _) (b1.mono (ug.vV _)) (by rw[cH,L2]) bt Ik jl)
         refine⟨_,_,_,g8,HQ,qY.trans x1,?_⟩;exact .qA bW.an 0 (0+n) _ ⟨w.heap.size,grownCap w (0+n) 0 el*sz,sz⟩ (bY.kw _ _ _) jl (by simp)
       |_=>simp at he
    ·rw[PM EV,dK] at he
     --tq exact aAF
     have qg:∀a,base=some a->a.spot=none:=fun a q=>by
      subst q;cases q:a.spot with
      |none=>rfl
      |some k=>
       exfalso;cases aA:Nat.ble (dd+n) iI with
       |true=>rw[aA] at he;simp[q] at he
       |false=>rw[aA] at he;simp[Am,q] at he
     have RL:(base=none/\cM=.slice none dd iI)\/(∃id off L,base=some ⟨id,off,none⟩/\μ id=some L/\cM=.slice (some ⟨L.r,off,none⟩) dd iI):=by
      cases base with
      |none=>exact .inl ⟨rfl,hs.to⟩
      |some a=>
       obtain⟨id,off,L,gw,ek,rfl,a9,rfl,ah,_,uo⟩:=hs.wW (.inl (qg a rfl));rcases uo with⟨_,rfl,rfl⟩|⟨q,_⟩|⟨q,_⟩
       ·exact .inr ⟨id,gw,L,rfl,a9,rfl⟩
       ·exact absurd q EV
       ·exact absurd q EV
     cases n2:Nat.ble (dd+n) iI with
     |true=>
      rw[n2,cd] at he;have n2:=h3 n2;rcases RL with⟨rfl,rfl⟩|⟨id,off,L,rfl,a9,rfl⟩
      ·simp only at he;cases j7:Nat.beq n 0 with
       |false=>rw[j7] at he;simp at he
       |true=>
        rw[j7,cd] at he;simp only[cn,dr] at he;obtain⟨rfl,rfl⟩:=he;have j7:=ez j7;subst j7;refine⟨_,w,μ,?_,h,Step.refl _ _,hs⟩;exact NW ts h1 dH elem eK i hu k3 sW ak none dd iI 0 dV r7 w hlen uy n2 (fun a q=>by cases q) (fun _=>rfl)
      ·simp only at he;cases dB:sN H id (off+dd*sz) new with
       |none=>rw[dB] at he;simp at he
       |some H1=>
        rw[dB] at he;simp only[cn,dr] at he;obtain⟨rfl,rfl⟩:=he;obtain⟨a8,ba,bd,cm⟩:=LH h a9 b1 dB;refine⟨.slice (some ⟨L.r,off,none⟩) (dd+n) iI,a8,μ,?_,bd,cm,?_⟩
        ·exact NW ts h1 dH elem eK i hu k3 sW ak (some ⟨L.r,off,none⟩) dd iI n dV r7 a8 hlen uy n2 (fun a q=>by
          injection q with q;subst q
          rw[Addr.rG,s5];exact ba) (fun q=>by cases q)
        ·have cD:iI<cO:=by
          obtain⟨_,_,_,_,_,_,_,_,_,_,uo⟩:=hs.wW (.inl rfl);rcases uo with⟨q,_⟩|⟨q,_⟩|⟨q,_⟩
          ·exact q
          ·exact absurd q EV
          ·exact absurd q EV
         exact .oc id off _ _ L a9 cD
     |false=>
      rw[n2,dK,show Am base=true from by rcases RL with⟨rfl,_⟩|⟨_,_,_,rfl,_⟩<;>rfl,cd] at he;have n2:iI<dd+n:=by
       rcases hH iI (dd+n) with q|q
       ·exact q
       ·rw[mo q] at n2;cases n2
      cases hold:j4 H sz dd (.slice base dd iI) with
      |none=>rw[hold] at he;simp at he
      |some ed=>
       rw[hold] at he;simp only at he;obtain⟨aci,FD,FE⟩:=LF h hs (m:=dd) rfl (bU _) hold;cases hQ:Nat.beq ed.length (dd*sz) with
       |false=>rw[hQ] at he;simp at he
       |true=>
        rw[hQ,cd] at he;have hQ:=ez hQ;unfold fresh at he;cases e6:H.oO (ed++new) elem false with
        |none=>rw[e6] at he;simp at he
        |some p=>
         obtain⟨arp,H1⟩:=p;rw[e6] at he;simp only[cn,dr] at he;obtain⟨rfl,rfl⟩:=he;have jl:=grownCap_ge w (dd+n) iI elem;have Ik:(ed++new).length=(dd+n)*sz:=by rw[eX,hQ,du,c6]
         obtain⟨ba,bd,rfl⟩:=h.drew.TJ (o:=.cells (aci.toArray++(r7.toArray++Builtin.zeroCells z.cells (grownCap w (dd+n) iI elem -(dd+n)))) elem) (L:=⟨w.heap.size,grownCap w (dd+n) iI elem*sz,sz⟩) e6 rfl
          (fun f=>Ri (FD.mono (h.vV _)) (b1.mono (h.vV _)) (UR eb) bt Ik jl)
         have aot:∃b',cM=.slice b' dd iI:=by
          rcases RL with⟨_,q⟩|⟨_,_,_,_,_,q⟩
          ·exact⟨_,q⟩
          ·exact⟨_,q⟩
         obtain⟨b',rfl⟩:=aot
         have g8:=UF (P:=P) (w:=w) ts h1 dH elem eK i z hu k3 sW ak oM b' dd iI n dV aci r7 hlen
          (fun gF=>by rw[s5];exact FE gF) (fun gF=>by rw[s5];exact df gF) n2 aL aG
         exact⟨_,_,_,g8,ba,bd,.qA H.an 0 (dd+n) _ _ (bY.kw _ _ _) jl (by simp)⟩
   |_=>simp at he
  |_=>simp at he
end
end
end Go.Cre
namespace Go.Cre
noncomputable section
open Go.RowKit
section
variable {P:Program}{B:Nat->Prop}{w0 w:World}{μ:bY}{H H':ar}
theorem ake(h:b8 P B w0 μ H w){sg ts dH:TypeId}{d lI s cM v:Value}(au:bj μ d lI)(hs:bj μ s cM)(he:QI P H sg d s=some (v,H')):
 ∃v' a8,(Builtin.copy_ #[sg,ts] dH #[lI,cM]).run P w=.ok v' a8/\b8 P B w0 μ H' a8/\Step μ μ H H'/\bj μ v v':=by
 unfold QI at he;cases hu:P.underlying sg with
 |none=>rw[hu] at he;simp at he
 |some t=>
  rw[hu] at he;cases t with
  |slice elem=>
   cases d with
   |slice base vN ayj=>
    cases aq:r5 s with
    |none=>rw[aq] at he;simp at he
    |some dd=>
     rw[aq] at he;simp only at he;cases eb:eV P elem with
     |none=>rw[eb] at he;simp at he
     |some sz=>
      rw[eb] at he;simp only at he;generalize aE:(bif Nat.ble dd vN then dd else vN)=n at he;have Mu:Nat.min dd vN=n:=by
          rw[<-aE];cases ai:Nat.ble dd vN with
          |true=>have:=h3 ai;simp;exact g6 this
          |false=>
           have:¬dd<=vN:=fun q=>by rw[mo q] at ai;cases ai
           simp;exact Nat.min_eq_right (by omega)
      have an4:n<=dd:=by rw[<-Mu];exact Nat.min_le_left _ _
      cases aA:j4 H sz n s with
      |none=>rw[aA] at he;simp at he
      |some cells=>
       rw[aA] at he;simp only at he;obtain⟨cells',bb,br⟩:=LF h hs aq an4 aA;have hlen:=aaU (P:=P) hs aq;have Zk:(Builtin.firstCells sz n cM).run P w=.ok cells'.toArray w:=br w.drawn;cases base with
       |none=>
        simp only[cn,dr] at he;obtain⟨rfl,rfl⟩:=he;rw[au.to];refine⟨.int .i64 n,w,?_,h,Step.refl _ _,.atom _ rfl⟩;simp[Builtin.copy_,e2 hu,hlen,Mu,k7 eb,Zk,goInt]
       |some a=>
        have qg:a.spot=none:=by
         cases q:a.spot with
         |none=>rfl
         |some _=>simp[q] at he
        obtain⟨id,off,L,gw,ek,rfl,a9,rfl,ah,_,_⟩:=au.wW (.inl qg);simp only at he;cases ew:cells.all fh with
        |false=>rw[ew] at he;simp at he
        |true=>
         rw[ew] at he;simp only[nM,dK] at he;cases dB:sN H id off cells with
         |none=>rw[dB] at he;simp at he
         |some H1=>
          rw[dB] at he;simp only[cn,dr] at he;obtain⟨rfl,rfl⟩:=he;obtain⟨a8,ba,bd,cm⟩:=LH h a9 bb dB;refine⟨.int .i64 n,a8,?_,bd,cm,.atom _ rfl⟩;have aoF:(storeCells ⟨L.r,gw,none⟩ cells').run P w=.ok () a8:=by
            by_cases aR:0<vN
            ·rw[ah aR];exact ba
            ·have j7:n=0:=by rw[<-Mu];have:vN=0:=by omega
                             rw[this];exact Nat.min_zero _
             have:cells=[]:=by
              subst j7;cases s with
              |slice b l c=>cases b with
               |none=>simp[j4] at aA;exact aA
               |some b=>
                simp[j4] at aA;exact aA
              |string s=>simp[j4,takeN] at aA;exact aA
              |_=>simp[r5] at aq
             subst this;have:=bb.lr;subst this;simp only[storeCells] at ba ⊢;exact ba
          simp[Builtin.copy_,e2 hu,hlen,Mu,k7 eb,Zk,goInt,aoF]
   |_=>simp at he
  |_=>simp at he
theorem akc(h:b8 P B w0 μ H w){t dH:TypeId}{x dV v:Value}(au:bj μ x dV)(he:QG P H t x=some (v,H')):
 ∃v' a8,(Builtin.clear_ #[t] dH #[dV]).run P w=.ok v' a8/\b8 P B w0 μ H' a8/\Step μ μ H H'/\bj μ v v':=by
 have SX:bj μ (.tuple #[]) (.tuple #[]):=.tuple _ _ rfl (fun i v v' q=>by simp at q);unfold QG at he;split at he
 ·rename_i d l c hu;simp only[cn,dr] at he;obtain⟨rfl,rfl⟩:=he;rw[au.to];exact⟨.tuple #[],w,by simp[Builtin.clear_,e2 hu],h,Step.refl _ _,SX⟩
 ·rename_i d a c hu;simp only[cn,dr] at he;obtain⟨rfl,rfl⟩:=he;obtain⟨b0,ek,rfl⟩:=au.AE;exact⟨.tuple #[],w,by simp[Builtin.clear_,e2 hu],h,Step.refl _ _,SX⟩
 ·rename_i elem a n c hu;split at he
  ·rename_i z qg aM;cases fv:plain z with
   |false=>rw[fv] at he;cases he
   |true=>
    rw[fv,cd] at he;split at he
    ·rename_i H1 dB;simp only[cn,dr] at he;obtain⟨rfl,rfl⟩:=he;obtain⟨id,off,L,gw,ek,rfl,a9,rfl,ah,_,_⟩:=au.wW (.inl qg);have ah:=ah (Nat.succ_pos n);subst ah;have s8:b3 μ z.cells.toList z.cells.toList:=(qu fv).cells;have x5:b3 μ (fM z.cells.toList (n+1)) (fM z.cells.toList (n+1)):=b3.FV fun v av=>by
      exact Kr (p:=fun v=>bj μ v v) av (fun u hu=>by
       obtain⟨i,ak⟩:=xa.1 hu;exact s8.2 i u u ak ak)
     obtain⟨a8,ba,bd,cm⟩:=LH h a9 x5 dB;refine⟨.tuple #[],a8,?_,bd,cm,SX⟩;have hg:=Kt z.cells.toList (n+1);have e:(Builtin.zeroCells z.cells (n+1)).toList=fM z.cells.toList (n+1):=by
      have:Builtin.zeroCells z.cells (n+1)=(fM z.cells.toList (n+1)).toArray:=by
       rw[<-hg];simp[Builtin.zeroCells]
      rw[this]
     simp[Builtin.clear_,e2 hu,w3 aM,e,ba]
    ·cases he
  ·cases he
 ·cases he
theorem asL:∀{e5:List Field} {ps:List (Nat×Nat)},places P e5=some ps->ps.length=e5.length/\∀w,(e5.mapM (fun f=>Prod.mk f.offset <$> sizeOf f.type):Sem (List (Nat×Nat))).run P w=.ok ps w:=by
 intro e5;induction e5 with
 |nil=>intro ps h;simp[places] at h;subst h;exact⟨rfl,fun w=>by simp⟩
 |cons f e5 aP=>
  intro ps h;simp only[places] at h;cases hs:eV P f.type with
  |none=>rw[hs] at h;simp at h
  |some n=>
   rw[hs] at h;cases aw:places P e5 with
   |none=>rw[aw] at h;simp at h
   |some r=>
    rw[aw] at h;simp only[cn] at h;subst h;obtain⟨a,b⟩:=aP aw;refine⟨by simp[a],fun w=>?_⟩;simp[V8,k7 hs,b]
theorem ak9(vs:List Value):∀(c:Array Value) (off k:Nat),(vs.zipIdx k).foldl (fun cs (x:Value×Nat)=>cs.setIfInBounds (off+x.2) x.1) c=rl c (off+k) vs:=by
 induction vs with
 |nil=>intro c off k;rfl
 |cons v vs aP=>intro c off k;simp only[List.zipIdx_cons,List.foldl_cons,rl];rw[aP];congr 1
theorem auL{off:Nat}{cells vs P':List Value}(h:gS off cells vs=some P'):rl cells.toArray off vs=P'.toArray:=by
 obtain⟨ax,aS,cl⟩:=UV h;apply Gh
 intro i;rw[N0 _ _ _ _ (by simpa using aS)];have:=cl i;simp only[afL];rw[this]
theorem auO{off:Nat}{cells cells' vs nK r:List Value}(aC:b3 μ cells cells')(av:b3 μ vs nK)(h:gS off cells vs=some r):∃cv,gS off cells' nK=some cv/\b3 μ r cv:=by
 induction off generalizing cells cells' r with
 |zero=>
  induction vs generalizing cells cells' nK r with
  |nil=>
   have:=av.lr;subst this;simp[gS] at h;subst h;exact⟨cells',by simp[gS],aC⟩
  |cons v vs aP=>
   obtain⟨v',lx,rfl,ad,ae⟩:=av.jK;cases cells with
   |nil=>simp[gS] at h
   |cons c cs=>
    obtain⟨c',cG,rfl,b4,bZ⟩:=aC.jK;simp only[gS] at h ⊢;cases hs:gS 0 cs vs with
    |none=>rw[hs] at h;simp at h
    |some jR=>
     rw[hs] at h;simp only[cn] at h;subst h;obtain⟨cv,ax,aS⟩:=aP ae bZ hs;rw[ax];exact⟨v'::cv,rfl,b3.cons ad aS⟩
 |succ n aP=>
  cases cells with
  |nil=>simp[gS] at h
  |cons c cs=>
   obtain⟨c',cG,rfl,b4,bZ⟩:=aC.jK;simp only[gS] at h ⊢;cases hs:gS n cs vs with
   |none=>rw[hs] at h;simp at h
   |some jR=>
    rw[hs] at h;simp only[cn] at h;subst h;obtain⟨cv,ax,aS⟩:=aP bZ hs;rw[ax];exact⟨c'::cv,rfl,b3.cons b4 aS⟩
def xf(μ:bY)(l l':List (Nat×Value)):Prop:=l.length=l'.length/\∀(i:Nat) p ic,l[i]?=some p->l'[i]?=some ic->p.1=ic.1/\bj μ p.2 ic.2
theorem xf.jK{p:Nat×Value}{l m:List (Nat×Value)}(h:xf μ (p::l) m):∃v' l',m=(p.1,v')::l'/\bj μ p.2 v'/\xf μ l l':=by
 cases m with
 |nil=>have:=h.1;simp at this
 |cons q l'=>
  obtain⟨a,b⟩:=h.2 0 p q rfl rfl;refine⟨q.2,l',by rw[a],b,by have:=h.1;simpa using this,fun i x y aa ap=>h.2 (i+1) x y (by simpa using aa) (by simpa using ap)⟩
theorem LL{place:Nat->Option (Nat×Nat)}:∀{parts na:List (Nat×Value)} {cells cells' r:List Value},xf μ parts na->b3 μ cells cells'->nX place cells parts=some r->
 ∃cv,Instr.fill place cells'.toArray na=some cv.toArray/\b3 μ r cv:=by
 intro parts;induction parts with
 |nil=>
  intro na cells cells' r aw aC he;have:na=[]:=w'.1 (by have:=aw.1;simpa using this.symm);subst this;simp[nX] at he;subst he;exact⟨cells',rfl,aC⟩
 |cons p parts aP=>
  intro na cells cells' r aw aC he;obtain⟨v',l',rfl,ad,ae⟩:=aw.jK;obtain⟨i,v⟩:=p;simp only[nX] at he;cases fv:place i with
  |none=>rw[fv] at he;simp at he
  |some q=>
   obtain⟨off,size⟩:=q;rw[fv] at he;simp only at he;cases ai:Nat.beq v.cells.toList.length size with
   |false=>rw[ai] at he;simp at he
   |true=>
    rw[ai,cd] at he;have ai:=ez ai;cases hs:gS off cells v.cells.toList with
    |none=>rw[hs] at he;simp at he
    |some P'=>
     rw[hs] at he;simp only at he;have av:=ad.cells;obtain⟨ahn,s1,s2⟩:=auO aC av hs;obtain⟨cv,a,b⟩:=aP ae s2 he;refine⟨cv,?_,b⟩;obtain⟨ax,aS,cl⟩:=UV s1;have mc:=av.1;have aM:v'.cells.size=size:=by simp at mc ai;omega
     have hg:v'.cells.toList.length=v'.cells.size:=by simp
     have anx:(v'.cells.zipIdx.foldl (fun cs (x:Value×Nat)=>cs.setIfInBounds (off+x.2) x.1) cells'.toArray)=ahn.toArray:=by
      rw[<-Array.foldl_toList,Array.toList_zipIdx,ak9,iD];exact auL s1
     have amb:¬(v'.cells.size≠size):=by omega
     have amc:¬(off+v'.cells.size>cells'.toArray.size):=by
      simp only[We];rw[<-hg];omega
     simp only[Instr.fill,fv];rw[aQ (by simp only[zf,LB];exact not_or.2 ⟨amb,amc⟩),anx];exact a
theorem aka{t:TypeId}{parts na:List (Nat×Value)}{v:Value}(aw:xf μ parts na)(he:Hq P t parts=some v)(w:World):
 ∃v',(Instr.build t na.toArray).run P w=.ok v' w/\bj μ v v':=by
 unfold Hq at he;cases aM:hA P t with
 |none=>rw[aM] at he;simp at he
 |some z=>
  rw[aM] at he;cases hu:P.underlying t with
  |none=>rw[hu] at he;simp at he
  |some d=>
   rw[hu] at he;have s8:plain z=true->b3 μ z.cells.toList z.cells.toList:=fun q=>(qu q).cells;cases d with
   |struct fields=>
    simp only at he;cases fv:plain z with
    |false=>rw[fv] at he;simp at he
    |true=>
     rw[fv,cd] at he;cases Ci:places P fields.toList with
     |none=>rw[Ci] at he;simp at he
     |some ps=>
      rw[Ci] at he;simp only at he;cases aA:nX (nth ps) z.cells.toList parts with
      |none=>rw[aA] at he;simp at he
      |some cells=>
       rw[aA] at he;simp only[cn] at he;subst he;obtain⟨cv,a,b⟩:=LL aw (s8 fv) aA;obtain⟨_,hm⟩:=asL Ci;refine⟨.agg cv.toArray,?_,bj.GC b⟩;have aE:(fun i=>ps[i]?)=nth ps:=by funext i;rw[lT]
       have g8:(Array.mapM (fun f=>Prod.mk f.offset <$> sizeOf f.type) fields:Sem (Array (Nat×Nat))).run P w=.ok ps.toArray w:=by
        rw[afo];simp[hm]
       have b0:Instr.fill (fun x=>ps[x]?) z.cells na=some cv.toArray:=by rw[aE];simpa using a
       simp[Instr.build,w3 aM,e2 hu,g8,b0]
   |array len elem=>
    simp only at he;cases fv:plain z with
    |false=>rw[fv] at he;simp at he
    |true=>
     rw[fv,cd] at he;cases hs:eV P elem with
     |none=>rw[hs] at he;simp at he
     |some sz=>
      rw[hs] at he;simp only at he;cases aA:nX (fun i=>some (i*sz,sz)) z.cells.toList parts with
      |none=>rw[aA] at he;simp at he
      |some cells=>
       rw[aA] at he;simp only[cn] at he;subst he;obtain⟨cv,a,b⟩:=LL aw (s8 fv) aA;refine⟨.agg cv.toArray,?_,bj.GC b⟩;have b0:Instr.fill (fun i=>some (i*sz,sz)) z.cells na=some cv.toArray:=by simpa using a
       simp[Instr.build,w3 aM,e2 hu,k7 hs,b0]
   |_=>simp at he
theorem aj'(h:b8 P B w0 μ H w){t:TypeId}{len:Nat}{parts na:List (Nat×Value)}{v:Value}(aw:xf μ parts na)(he:Hr P H t len parts=some (v,H')):
 ∃v' a8 bh,(Instr.buildSlice t len na.toArray).run P w=.ok v' a8/\b8 P B w0 bh H' a8/\Step μ bh H H'/\bj bh v v':=by
 unfold Hr at he;cases hu:P.underlying t with
 |none=>rw[hu] at he;simp at he
 |some d=>
  rw[hu] at he;cases d with
  |slice elem=>
   simp only at he;cases hs:eV P elem with
   |none=>rw[hs] at he;simp at he
   |some sz=>
    rw[hs] at he;cases aM:hA P elem with
    |none=>rw[aM] at he;simp at he
    |some z=>
     rw[aM] at he;simp only at he;cases aC:(Nat.ble len 100000&&Nat.ble (len*sz) 100000&&plain z&&Nat.beq z.cells.toList.length sz) with
     |false=>rw[aC] at he;simp at he
     |true=>
      rw[aC,cd] at he;simp only[gr] at aC;obtain⟨⟨⟨hZ,aL⟩,aG⟩,bt⟩:=aC;have hZ:=h3 hZ;have aL:=h3 aL;have bt:=ez bt;cases aA:nX (fun i=>some (i*sz,sz)) (fM z.cells.toList len) parts with
      |none=>rw[aA] at he;simp at he
      |some cells=>
       rw[aA] at he;simp only at he;cases ah:cells.all fh with
       |false=>rw[ah] at he;simp at he
       |true=>
        rw[ah,cd] at he;cases aE:uN H elem cells with
        |none=>rw[aE] at he;simp at he
        |some p=>
         obtain⟨id,H1⟩:=p;rw[aE] at he;simp only[cn,dr] at he;obtain⟨rfl,rfl⟩:=he;have s8:b3 μ z.cells.toList z.cells.toList:=(qu aG).cells;have x5:b3 μ (fM z.cells.toList len) (fM z.cells.toList len):=b3.FV fun v av=>
          Kr (p:=fun v=>bj μ v v) av (fun u hu=>by
           obtain⟨i,ak⟩:=xa.1 hu;exact s8.2 i u u ak ak)
         obtain⟨cv,a,b⟩:=LL aw x5 aA;obtain⟨bh,L,cW,eE,mF,tc,_⟩:=TW h b aE;refine⟨.slice (some ⟨w.heap.size,0,none⟩) len len,_,bh,?_,cW,eE,?_⟩
         ·have hg:=Kt z.cells.toList len;have apj:z.cells.size=sz:=by simpa using bt
          have RM:¬(16777216<len*sz):=by omega
          rw[bt] at hg;simp only[afp] at hg;by_cases aR:len*sz=0
          ·have B6:fM z.cells.toList len=[]:=w'.1 (by rw[Vz,bt];exact aR);rw[B6] at a;have b0:Instr.fill (fun i=>some (i*sz,sz)) (Array.map (fun _=>(default:Value)) (Array.range 0)) na=some cv.toArray:=by
            have hb:Array.map (fun _:Nat=>(default:Value)) (Array.range 0)=#[]:=by simp
            rw[hb];exact a
           simp[Instr.buildSlice,e2 hu,k7 hs,aR,b0,newRow,newObj,Sem.run]
          ·have b0:Instr.fill (fun i=>some (i*sz,sz)) ((Array.range (len*sz)).map fun i=>z.cells[i % z.cells.size]!) na=some cv.toArray:=by rw[hg];exact a
           simp[Instr.buildSlice,e2 hu,k7 hs,RM,aR,w3 aM,b0,newRow,newObj,Sem.run]
         ·rw[<-tc];refine .oc id 0 len len L mF ?_;have:(100000:Nat)<cO:=by decide
          omega
  |_=>simp at he
end
end
end Go.Cre
namespace Go.Cre
noncomputable section
open Go.RowKit
section
variable {P:Program}{B:Nat->Prop}{w0 w:World}{μ:bY}{H H':ar}
theorem X8{α:Type}{s:Sem α}{a:α}(h:eR P s=some a)(w:World):s.run P w=.ok a w:=by
 induction s generalizing w with
 |pure b=>simp[eR] at h;subst h;rfl
 |program k aP=>exact aP P (by simpa[eR] using h) w
 |mark m k aP=>exact aP (by simpa[eR] using h) w
 |_=>simp[eR] at h
theorem b8.ae8(h:b8 P B w0 μ H w){id:Nat}{L:Loc}{b b':fB}{o':Obj}(a9:μ id=some L)(ay:H.bL<=id)(hm:H.mem.get id=some b)(gL:∀c e o f z s,b≠.row c e o f z s)(au:b≠.dead)
 (hu:H.upd id b'=some H')(pc:∀c e o f z s,b'≠.row c e o f z s)(ai:kf P μ L b' o'):
 b8 P B w0 μ H' {w with heap:=w.heap.setIfInBounds L.r o'}/\Step μ μ H H':=by
 obtain⟨u1,bT,nd,Dd,tr⟩:=ar.rn hu;have wg:H.mem.get id≠some .dead:=by rw[hm];intro q;injection q with q;exact au q
 refine h.write a9 ay wg u1 nd Dd (by rw[tr];simp) (fun x aa=>.inl (by rw[tr,aQ aa])) ?_ (fun f l aq=>.inl (by rw[bT];exact aq)) (fun f l aq=>.inl (by rw[<-bT];exact aq))
  (fun c e f z s q=>absurd q (pc _ _ _ _ _ _)) (fun q=>by
   rw[hm] at q;cases b with
   |row c e o f z s=>exact absurd rfl (gL _ _ _ _ _ _)
   |_=>simp[kI] at q) ai
 intro x bX aa v5 ao;rcases h.sep id x L bX (Ne.symm aa) a9 v5 ao.symm with d|d|⟨cF,l,⟨bb,ax,e',NX,q⟩,_⟩
 ·exact absurd d wg
 ·rw[tr,aQ aa];exact d
 ·rw[hm] at q;injection q with q;exact absurd q (gL _ _ _ _ _ _)
end
end
end Go.Cre
namespace Go.Cre
noncomputable section
open Go.RowKit
section
variable {P:Program}{B:Nat->Prop}{w0 w:World}{μ:bY}{H H':ar}
theorem akC{x dV v:Value}{xt asserted:TypeId}{ok:Bool}(aa:bj μ x dV)(he:Eo P x asserted ok=some v)(w:World):
 ∃v',(Instr.typeAssert dV xt asserted ok).run P w=.ok v' w/\bj μ v v':=by
 unfold Eo at he;simp only at he
 have RW:∀v,(bif ok then(match hA P asserted with|some z=>bif plain z then some (Value.tuple #[z,.bool false]) else none|none=>none) else none)=some v->
  ok=true/\∃z,hA P asserted=some z/\plain z=true/\v=.tuple #[z,.bool false]:=by
  intro v av;cases ok with
  |false=>simp at av
  |true=>
   simp only[cd] at av;cases aM:hA P asserted with
   |none=>rw[aM] at av;simp at av
   |some z=>
    rw[aM] at av;simp only at av;cases aw:plain z with
    |false=>rw[aw] at av;simp at av
    |true=>rw[aw] at av;simp at av;exact⟨rfl,z,rfl,aw,av.symm⟩
 have ID:∀z,plain z=true->bj μ (.tuple #[z,.bool false]) (.tuple #[z,.bool false]):=fun z aM=>bj.U8 (b3.cons (qu aM) (b3.cons (.atom _ rfl) (b3.nil _)));have ZU:∀y ng,bj μ y ng->bj μ (bif ok then .tuple #[y,.bool true] else y) (if ok then .tuple #[ng,.bool true] else ng):=fun y ng ap=>by
  cases ok with
  |true=>exact bj.U8 (b3.cons ap (b3.cons (.atom _ rfl) (b3.nil _)))
  |false=>exact ap
 cases hu:P.underlying asserted with
 |none=>rw[hu] at he;simp at he
 |some d=>
  rw[hu] at he;cases x with
  |nilIface=>
   rw[aa.Jl];have av:(bif ok then(match hA P asserted with|some z=>bif plain z then some (Value.tuple #[z,.bool false]) else none|none=>none) else none)=some v:=by
    cases d<;>exact he
   obtain⟨rfl,z,aM,aw,rfl⟩:=RW v av;refine⟨_,?_,ID z aw⟩;cases d<;>simp[Instr.typeAssert,e2 hu,w3 aM]
  |iface t y=>
   obtain⟨ng,rfl,ap⟩:=aa.yq;by_cases ak:∃want,d=.interface want
   ·obtain⟨want,rfl⟩:=ak;simp only at he;cases Mn:P.info? t with
    |none=>rw[Mn] at he;simp at he
    |some i=>
     rw[Mn] at he;simp only at he;cases z7:Instr.missingMethod want i.methods with
     |none=>
      rw[z7] at he;simp only[cn] at he;subst he;refine⟨_,?_,ZU _ _ (.iface t y ng ap)⟩;simp[Instr.typeAssert,e2 hu,typeInfo,Mn,z7]
     |some Jm=>
      rw[z7] at he;obtain⟨rfl,z,aM,aw,rfl⟩:=RW v he;refine⟨_,?_,ID z aw⟩;simp[Instr.typeAssert,e2 hu,typeInfo,Mn,z7,w3 aM]
   ·have q1:(bif Nat.beq t asserted then some (bif ok then .tuple #[y,.bool true] else y) else(bif ok then(match hA P asserted with|some z=>bif plain z then some (Value.tuple #[z,.bool false]) else none|none=>none) else none))=some v:=by
     cases d<;>first|exact he|exact absurd ⟨_,rfl⟩ ak
    cases ai:Nat.beq t asserted with
    |true=>
     rw[ai,cd] at q1;simp only[cn] at q1;subst q1;have:=ez ai;subst this;refine⟨_,?_,ZU _ _ ap⟩;cases d<;>first|exact absurd ⟨_,rfl⟩ ak|simp[Instr.typeAssert,e2 hu]
    |false=>
     rw[ai,dK] at q1;obtain⟨rfl,z,aM,aw,rfl⟩:=RW v q1;have dX:t≠asserted:=fun e=>by subst e;simp at ai
     refine⟨_,?_,ID z aw⟩;cases d<;>first|exact absurd ⟨_,rfl⟩ ak|simp[Instr.typeAssert,e2 hu,dX,w3 aM]
  |_=>cases d<;>simp at he
theorem akh{t:TypeId}{x dV y ng:Value}{r:Bool}(aa:bj μ x dV)(ap:bj μ y ng)(he:xT P t x y=some r)(d:Nat)(w:World):(Op.equalIn (d+1) t dV ng).run P w=.ok r w:=by
 unfold xT at he;cases hu:P.underlying t with
 |none=>rw[hu] at he;simp at he
 |some sg=>
  rw[hu] at he;cases sg with
  |pointer elem=>
   cases x with
   |pointer a=>
    cases y with
    |pointer b=>
     cases a with
     |none=>
      rw[aa.FN];cases b with
      |none=>rw[ap.FN];simp at he;subst he;simp[Op.equalIn,e2 hu]
      |some b=>obtain⟨id,off,L,rfl,a9,rfl⟩:=ap.pu;simp at he;subst he;simp[Op.equalIn,e2 hu]
     |some a=>
      obtain⟨id,off,L,rfl,a9,rfl⟩:=aa.pu;cases b with
      |none=>rw[ap.FN];simp at he;subst he;simp[Op.equalIn,e2 hu]
      |some b=>
       obtain⟨mC,gw,bX,rfl,v5,rfl⟩:=ap.pu;simp only at he;cases hs:eV P elem with
       |none=>rw[hs] at he;simp at he
       |some n=>
        rw[hs] at he;cases n with
        |zero=>simp at he
        |succ n=>
         simp only at he;cases ai:Nat.beq id mC with
         |false=>rw[ai] at he;simp at he
         |true=>
          rw[ai,cd] at he;have:=ez ai;subst this;rw[a9] at v5;injection v5 with v5;subst v5
          simp only[cn] at he;subst he;have B2:(({block:=id,off:=off}:Addr)=={block:=id,off:=gw})=(({block:=L.r,off:=off}:Addr)=={block:=L.r,off:=gw}):=by
           rw[qG];simp
          rw[B2];simp[Op.equalIn,e2 hu,k7 hs,sameAddr]
    |_=>simp at he
   |_=>simp at he
  |slice elem=>
   cases x with
   |slice a l c=>
    cases y with
    |slice b l' c'=>
     cases a with
     |none=>
      rw[aa.to];cases b with
      |none=>rw[ap.to];simp at he;subst he;simp[Op.equalIn,e2 hu]
      |some b=>obtain⟨_,_,rfl⟩:=ap.AE;simp at he;subst he;simp[Op.equalIn,e2 hu]
     |some a=>
      obtain⟨_,_,rfl⟩:=aa.AE;cases b with
      |none=>rw[ap.to];simp at he;subst he;simp[Op.equalIn,e2 hu]
      |some b=>simp at he
    |_=>simp at he
   |_=>simp at he
  |map k e=>
   cases x with
   |map a=>
    cases y with
    |map b=>
     cases a with
     |none=>
      rw[aa.Jd];cases b with
      |none=>rw[ap.Jd];simp at he;subst he;simp[Op.equalIn,e2 hu]
      |some b=>obtain⟨_,_,rfl⟩:=ap.Jb;simp at he;subst he;simp[Op.equalIn,e2 hu]
     |some a=>
      obtain⟨_,_,rfl⟩:=aa.Jb;cases b with
      |none=>rw[ap.Jd];simp at he;subst he;simp[Op.equalIn,e2 hu]
      |some b=>simp at he
    |_=>simp at he
   |_=>simp at he
  |func ps rs v=>
   cases x with
   |nilFunc=>
    rw[aa.Nf];cases y with
    |func fn a b=>
     simp at he;subst he;cases ap with
     |atom _ q=>simp[isAtom] at q
     |func=>simp[Op.equalIn,e2 hu]
     |yield=>simp[Op.equalIn,e2 hu]
    |_=>simp at he
   |func fn a b=>
    cases y with
    |nilFunc=>
     rw[ap.Nf];simp at he;subst he;cases aa with
     |atom _ q=>simp[isAtom] at q
     |func=>simp[Op.equalIn,e2 hu]
     |yield=>simp[Op.equalIn,e2 hu]
    |_=>simp at he
   |_=>simp at he
  |interface M8=>
   cases x with
   |nilIface=>
    rw[aa.Jl];cases y with
    |iface t y=>obtain⟨_,rfl,_⟩:=ap.yq;simp at he;subst he;simp[Op.equalIn,e2 hu]
    |_=>simp at he
   |iface t x=>
    obtain⟨_,rfl,_⟩:=aa.yq;cases y with
    |nilIface=>rw[ap.Jl];simp at he;subst he;simp[Op.equalIn,e2 hu]
    |_=>simp at he
   |_=>simp at he
  |_=>simp at he
theorem adG{r:Nat}{c:Array Value}{e:TypeId}{f:Nat×Nat}(h:w.heap[r]?=some (.cells c e f)):(shape r).run P w=.ok (some (e,c.size)) w:=by
 simp[shape,Sem.run,World.shape?,h]
theorem aeW{r:Nat}{c:Array Value}{e:TypeId}{f:Nat×Nat}(h:w.heap[r]?=some (.cells c e f)):(viewAt r).run P w=.ok none w:=by
 simp[viewAt,adG h]
theorem ahU{r:Nat}{c:Array Value}{e:TypeId}{f:Nat×Nat}(h:w.heap[r]?=some (.cells c e f)):(cellsIn r).run P w=.ok (some c.size) w:=by
 simp[cellsIn,adG h]
theorem akd(h:b8 P B w0 μ H w){src dst:TypeId}{x dV v:Value}(aa:bj μ x dV)(he:QH P H src dst x=some v):
 ∃v',(convert src dst dV).run P w=.ok v' w/\bj μ v v':=by
 unfold QH at he;cases hu:P.underlying src with
 |none=>rw[hu] at he;simp at he
 |some ds=>
  rw[hu] at he;cases au:P.underlying dst with
  |none=>rw[au] at he;simp at he
  |some Bp=>
   rw[au] at he;cases ds with
   |pointer t=>
    cases Bp with
    |unsafePointer=>
     cases x with
     |pointer a=>
      cases a with
      |none=>simp at he
      |some a=>
       obtain⟨id,off,L,rfl,a9,rfl⟩:=aa.pu;simp only at he;cases hs:eV P t with
       |none=>rw[hs] at he;simp at he
       |some n=>
        rw[hs] at he;cases n with
        |zero=>simp at he
        |succ n=>
         cases hm:H.mem.get id with
         |none=>rw[hm] at he;simp at he
         |some b=>
          rw[hm] at he;cases b with
          |row cells el opn bF d' sh=>
           simp only at he;cases ai:Nat.blt off cells.length with
           |false=>rw[ai] at he;simp at he
           |true=>
            rw[ai,cd] at he;simp only[cn] at he;subst he;have ai:off<cells.length:=h3 ai;obtain⟨c,f,b4,bZ,cH,fX,gf,hc,gU⟩:=h.row a9 hm;have cD:¬(c.size<=off):=by omega
            refine⟨_,?_,aa⟩;simp[convert,e2 hu,e2 au,Conv.unsafePointer,Conv.seenAt,aeW b4,ahU b4,cD,k7 hs]
          |_=>simp at he
     |_=>simp at he
    |_=>simp at he
   |unsafePointer=>
    cases Bp with
    |pointer u=>
     cases x with
     |pointer a=>
      cases a with
      |none=>simp at he
      |some a=>
       obtain⟨id,off,L,rfl,a9,rfl⟩:=aa.pu;simp only at he;cases hs:eV P u with
       |none=>rw[hs] at he;simp at he
       |some n=>
        rw[hs] at he;cases n with
        |zero=>simp at he
        |succ n=>
         cases hm:H.mem.get id with
         |none=>rw[hm] at he;simp at he
         |some b=>
          rw[hm] at he;cases b with
          |row cells el opn bF d' sh=>
           cases opn with
           |true=>simp at he
           |false=>
            simp only at he;cases ai:liesAt P P.depth el (cells.length / P.cellsOf el) off u 1 with
            |false=>rw[ai] at he;simp at he
            |true=>
             rw[ai,cd] at he;simp only[cn] at he;subst he;obtain⟨c,f,b4,bZ,cH,fX,gf,hc,gU⟩:=h.row a9 hm;have m5:c.size=cells.length:=by rw[bZ,gf rfl]
             have h':w.shape? L.r=some (el,c.size):=by simp[World.shape?,b4]
             refine⟨_,?_,aa⟩;simp[convert,e2 hu,e2 au,Conv.unsafePointer,Conv.seenAt,aeW b4,k7 hs,variablesAt,h',m5,ai]
          |_=>simp at he
     |_=>simp at he
    |_=>simp at he
   |_=>cases Bp<;>simp at he
end
end
end Go.Cre

/- A part of the proof of ResumeBytes. -/
import Derived.Test.YtkmfhjilfjecmaaGreatDoorCaf
import Derived.Orders
set_option linter.unusedVariables false
set_option linter.unusedSimpArgs false
namespace Go.Cre
noncomputable section
open Go.RowKit
section
variable {P:Program}{B:Nat->Prop}{w0 w:World}{μ:bY}{H H':aA}
theorem aqE(z:Array Value)(n:Nat):(Builtin.zeroCells z n).size=n*z.size:=by simp[Builtin.zeroCells]
theorem Oo{a b bV b':List Value}{elem:TypeId}{z:Value}{sz IA cap f eA r:Nat}{sh:Bool}{bD:bY}(a1:b0 bD a bV)(ap:b0 bD b b')(eV:P.cellsOf elem=sz)(bE:z.cells.toList.length=sz)(av:(a++b).length=IA*sz)(qj:IA<=cap):
 km P bD ⟨r,cap*sz,sz⟩ (.row (a++b) elem true f eA sh) (.cells (bV.toArray++(b'.toArray++Builtin.zeroCells z.cells (cap -IA))) elem):=by
 have aC:=a1.append ap;have xV:z.cells.size=sz:=by simpa using bE
 have ahY:(bV.toArray++(b'.toArray++Builtin.zeroCells z.cells (cap -IA)))=(bV++b').toArray++Builtin.zeroCells z.cells (cap -IA):=by
  apply tf;simp
 rw[ahY];refine⟨rfl,?_,eV,?_,(fun h=>by cases h),fun i v v' a b=>?_,⟨fun off _ aa ae=>by simp at ae,fun _=>.inl rfl⟩⟩
 ·rw[Array.size_append,aqE,xV];simp only[SM];rw[<-aC.1,av,<-nA];congr 1;omega
 ·show(a++b).length<=cap*sz;rw[av];exact nB _ qj
 ·refine aC.2 i v v' a ?_;have ao:i<(bV++b').length:=by
   have:=(dY.1 a).1;have:=aC.1;omega
  rw[Sj (by simpa using ao)] at b;simpa using b
theorem Tz{a b:Nat}(h:Nat.blt a b=false):b<=a:=by
 rcases ji a b with q|q
 ·have:=j8 q;unfold Nat.blt at h;simp_all
 ·exact q
theorem aeJ(h:b9 P B w0 μ H w){hh hx eS:TypeId}{hn:TypeDesc}{s c4 x dR v:Value}(hs:bB μ s c4)(U:bB μ x dR)(jO:P.underlying hx=some hn)(xG:∀k,hn≠.int k)(he:qc P H hh s x=some (v,H')):
 ∃v' br bD,(Builtin.append_ #[hh,hx] eS #[c4,dR]).run P w=.ok v' br/\b9 P B w0 bD H' br/\Step μ bD H H'/\bB bD v v':=by
 unfold qc at he;cases hu:P.underlying hh with
 |none=>rw[hu] at he;simp at he
 |some d=>
  rw[hu] at he;cases d with
  |slice elem=>
   cases s with
   |slice base c' il=>
    simp only at he;cases eV:ef P elem with
    |none=>rw[eV] at he;simp at he
    |some sz=>
    rw[eV] at he;cases ia:vh P elem with
    |none=>rw[ia] at he;simp at he
    |some fO=>
    rw[ia] at he;cases bE:fy P elem with
    |none=>rw[bE] at he;simp at he
    |some z=>
    rw[bE] at he;cases aP:rS x with
    |none=>rw[aP] at he;simp at he
    |some n=>
    rw[aP] at he;simp only at he;cases xz:(Nat.ble (c'+n) 1000000&&Nat.ble fO 1000000&&Nat.beq z.cells.toList.length sz) with
    |false=>rw[xz] at he;simp at he
    |true=>
    rw[xz] at he;simp only[lY,dT] at he;simp only[fS] at xz;obtain⟨⟨bb,a7⟩,b8⟩:=xz;have bb:=hV bb;have a7:=hV a7;have b8:=eO b8;cases aD:js H sz n x with
    |none=>rw[aD] at he;simp at he
    |some new=>
    rw[aD] at he;simp only at he;cases jv:(new.all eM&&Nat.beq new.length (n*sz)) with
    |false=>rw[jv] at he;simp at he
    |true=>
    rw[jv] at he;simp only[lY,dT] at he;simp only[fS] at jv;have fl:=eO jv.2;obtain⟨rW,bX,de⟩:=Kq h U aP (cW _) aD;have hlen:=Xt (P:=P) U aP;obtain⟨i,ao,rfl⟩:=Nk ia
    have xV:i.zero=some z:=by simpa[fy,ao] using bE
    have sU:i.size=sz:=by simpa[ef,ao] using eV
    have o4:(Builtin.firstCells i.size n dR).run P w=.ok rW.toArray w:=by rw[sU];exact de w.drawn
    have d':(cZ:Nat)=1208925819614629174706176:=rfl;by_cases Em:il=cZ
    ·subst Em;rw[hz,b7] at he;cases base with
     |none=>simp at he
     |some a=>
      obtain⟨id,off,L,gf,eh,rfl,bS,rfl,ar,_,tZ⟩:=hs.yl (.inr (.inr (by decide)));simp only at he;cases hm:H.mem.get id with
      |none=>rw[hm] at he;simp at he
      |some b=>
       rw[hm] at he;cases b with
       |row cells el opn bI eA sh=>
        cases opn with
        |false=>simp at he
        |true=>
        simp only at he;cases oX:(Nat.beq el elem&&!Nat.blt id H.bW&&Nat.ble eA (off+c'*sz)) with
        |false=>rw[oX] at he;simp at he
        |true=>
        rw[oX] at he;simp only[lY,dT] at he;simp only[fS,qU] at oX;obtain⟨⟨cO,ed⟩,gr⟩:=oX;have cO:=eO cO;subst cO;have ed:=Tz ed;have gr:=hV gr;obtain⟨c,f,g1,g2,g3,g4,g5,g6,g7⟩:=h.row bS hm;have KG:L.sz=sz:=by rw[<-g3];exact RB eV
        cases jw:Nat.beq n 0 with
        |true=>
         rw[jw,b7] at he;simp only[cp,dB] at he;obtain⟨rfl,rfl⟩:=he;have jw:=eO jw;subst jw;have PL:rW=[]:=by
          have:=bX.1;rw[fl] at this;exact q5.1 (by omega)
         subst PL;refine⟨_,w,μ,?_,h,Step.refl _ _,hs⟩;have hle:c'+0<=eh:=by
          rcases tZ with⟨c1,_⟩|⟨_,c2,_⟩|⟨_,c2,c3⟩<;>omega
         exact Ma hh hx eS el hn i hu jO xG ao (some ⟨L.r,gf,none⟩) c' eh 0 dR [] w hlen o4 hle (fun a _=>rfl) (fun q=>by cases q)
        |false=>
        rw[jw,dT] at he;have att:0<n:=by
         rcases M0 n with q|q
         ·subst q;simp at jw
         ·exact q
        cases HH:Nat.beq off 0 with
        |false=>rw[HH] at he;simp at he
        |true=>
        rw[HH] at he;simp only[lY,dT] at he;have HH:=eO HH;subst HH;cases hold:takeN (c'*sz) cells with
        |none=>rw[hold] at he;simp at he
        |some ev=>
        rw[hold] at he;simp only at he;obtain⟨uC,wj,alJ⟩:=Fh hold;cases h1:H.bI.get bI with
        |none=>rw[h1] at he;simp at he
        |some l=>
        rw[h1] at he;simp only at he;cases D':y1 H id l with
        |none=>rw[D'] at he;simp at he
        |some p=>
        obtain⟨cN,H1⟩:=p;rw[D'] at he;simp only at he;obtain⟨bl,bp,bQ,cU,gb,ot,zA,zB,Qx,pre,at0,akD⟩:=adD D';have PD:∀x,H1.mem.get x=H.mem.get x\/(H1.mem.get x=some .dead/\(kg (H.mem.get x)=true\/H.mem.get x=some .dead)):=fun x=>by
         rcases Qx x with q|q
         ·exact .inl q
         ·exact .inr ⟨q.1,(h.lb bI l x h1 q.2).2⟩
        obtain⟨G6,KJ⟩:=h.kill (H':=H1) bl bQ cU PD (fun f l av=>⟨l,by rw[bp];exact av,bu _,fun x a b=>absurd a b⟩) (fun f l av=>⟨l,by rw[<-bp];exact av,bu _⟩)
        --Fi ev members aoU stay abE no Lv avc R0 is kept
        have aiH:∀y∈cN,∀c e f z s,H1.mem.get y=some (.row c e true f z s)->c.length<=cells.length:=fun y ai c e f z s q=>by
         have ajP:=G6.vA bI l (by rw[bp];exact h1);have ig:=ajP.sublist gb;rw[akD] at ig ai;rcases e3.1 ai with rfl|ai
         ·rw[zA,hm] at q;injection q with q;injection q with q;subst q;exact cW _
         ·exact(SK.1 ig).1 y ai _ _ _ _ _ _ _ _ _ _ (by rw[zA];exact hm) q
        --Fi second cut
        cases c8:Gy H1 cN (Nat.beq cells.length (c'*sz)) with
        |none=>rw[c8] at he;simp at he
        |some p=>
        obtain⟨dW,cv⟩:=p;rw[c8] at he;simp only at he;unfold Gy at c8
        have tR:b9 P B w0 μ cv w/\Step μ μ H cv/\cv.ak=H.ak/\cv.cn=H.cn/\cv.bW=H.bW/\cv.bI.get bI=some l/\dW.Sublist l/\(∀x,x∈l->x∉dW->cv.mem.get x=some .dead)/\
         (∀y∈dW,∀c e f z s,cv.mem.get y=some (.row c e true f z s)->c.length<=c'*sz)/\(∀x,cv.mem.get x=H.mem.get x\/cv.mem.get x=some .dead):=by
         cases ap:Nat.beq cells.length (c'*sz) with
         |true=>
          rw[ap,b7] at c8;simp only[cp,dB] at c8;obtain⟨rfl,rfl⟩:=c8;have ap:=eO ap;exact⟨G6,KJ,bl,bQ,cU,by rw[bp];exact h1,gb,zB,fun y ai c e f z s q=>by have:=aiH y ai c e f z s q;omega,fun x=>(PD x).imp (fun q=>q) And.left⟩
         |false=>
          rw[ap,dT] at c8;cases aO:sX H1 H1.ak cN with
          |none=>rw[aO] at c8;simp at c8
          |some JA=>
           rw[aO] at c8;simp only[cp,dB] at c8;obtain⟨rfl,rfl⟩:=c8;obtain⟨bm,a2,a3,a4,a5,da⟩:=Il aO;have lN:∀x,x∈cN->JA.mem.get x=some .dead:=fun x U=>a5 x U (fun e=>by
            have:=(G6.lb bI l x (by rw[bp];exact h1) (gb.mem U)).1;omega)
           have PE:∀x,JA.mem.get x=H1.mem.get x\/(JA.mem.get x=some .dead/\(kg (H1.mem.get x)=true\/H1.mem.get x=some .dead)):=fun x=>by
            by_cases U:x∈cN
            ·exact .inr ⟨lN x U,(G6.lb bI l x (by rw[bp];exact h1) (gb.mem U)).2⟩
            ·exact .inl (da x (.inl U))
           obtain⟨tR,Hg⟩:=G6.kill (H':=JA) bm a3 a4 PE (fun f l av=>⟨l,by rw[a2];exact av,bu _,fun x a b=>absurd a b⟩) (fun f l av=>⟨l,by rw[<-a2];exact av,bu _⟩);refine⟨tR,KJ.trans Hg,by omega,by omega,by omega,by rw[a2,bp];exact h1,h5 _,fun x U _=>?_,fun y ai=>by simp at ai,fun x=>?_⟩
           ·by_cases eG:x∈cN
            ·exact lN x eG
            ·have:=zB x U eG;rcases PE x with q|q
             ·rw[q];exact this
             ·exact q.1
           ·rcases PE x with q|q
            ·rw[q];exact(PD x).imp (fun q=>q) And.left
            ·exact .inr q.1
        obtain⟨tR,Hg,m1,m2,m3,m4,m5,m6,m7,m8⟩:=tR;cases lR:cv.qK bI (cv.ak::dW) with
        |none=>rw[lR] at he;simp at he
        |some l3=>
        rw[lR] at he;simp only at he;obtain⟨s1,s2,wv,zY,pU⟩:=aA.Cu lR;cases PJ:l3.new (.row (ev++new) el true bI eA sh) with
        |none=>rw[PJ] at he;simp at he
        |some p=>
        obtain⟨alv,CZ⟩:=p;rw[PJ] at he;simp only[cp,dB] at he;obtain⟨rfl,rfl⟩:=he;obtain⟨rfl,t1,t2,t3,t4,t5⟩:=aA.pM PJ;have aL:CZ.ak=cv.ak+1:=by omega
        have cu:∀m,CZ.mem.get m=if m=cv.ak then some (.row (ev++new) el true bI eA sh) else cv.mem.get m:=fun m=>by rw[t5,s1,s2]
        have jr:∀m,CZ.bI.get m=if m=bI then some (cv.ak::dW) else cv.bI.get m:=fun m=>by rw[t2,pU]
        have o0:bI<cv.cn:=by have:=h.rm _ _ _ _ _ _ hm;omega
        have HB:(ev++new).length=(c'+n)*sz:=by rw[dP,wj,fl,nA]
        have xT:∀y∈dW,∀c e f z s,cv.mem.get y=some (.row c e true f z s)->c.length<=(ev++new).length:=fun y ai c e f z s q=>by
         have:=m7 y ai c e f z s q;rw[dP,wj];omega
        --R0 is kept,au3
        have PQ:b0 μ ev (c.toList.take (c'*sz)):=by
         have:=g6.take (c'*sz);rw[<-uC,yC,mu alJ] at this;exact this
        rw[s1];rcases tZ with⟨c1,_⟩|⟨_,c2,rfl,c3⟩|⟨_,rfl,rfl⟩
        ·omega
        ·--a slice with room of atZ own,or none
         by_cases nM:c'+n<=eh
         ·--in place
          rw[KG] at c3;have BF:(c'+n)*sz<=L.N:=by
           have:=nB sz nM;omega
          have dw:=Zc (P:=P) L.r (c'*sz) el f rW 0 c w g1 (by rw[<-bX.1,fl,g2];rw[nA] at BF;omega) (fun j a'=>by
           rw[<-bX.1,fl] at a';exact U6 g7 (by rw[nA] at BF;omega) (by omega)) (abu bX jv.1)
          simp only[tn] at dw
          obtain⟨G7,Hh⟩:=tR.am7 (H':=CZ) (f:=bI) (id:=id) (l:=dW) (l0:=l) (cells:=ev++new) (elem:=el) (eA:=eA) (sh:=sh) (o:=.cells c el f) (o':=.cells (qN c (c'*sz) rW) el f) (L:=L) m4 m5 m6 o0 bS (by omega) (h.new id L bS (by omega) (by rw[hm];intro q;cases q)) aL (by omega) (by omega) cu jr xT
           (fun y bN ai aw=>by
            by_cases rB:cv.mem.get y=some .dead
            ·exact .inl rB
            ·right
             have Ia:y∈l/\x0 H y bI:=by
              by_cases kB:y=id
              ·subst kB;exact⟨gb.mem ot,⟨_,_,_,_,hm⟩⟩
              ·rcases h.sep id y L bN (Ne.symm kB) bS ai aw.symm with d|d|⟨cP,l',⟨c1,xg,fm,Mb,q⟩,du,c6,_,ak2⟩
               ·rw[hm] at d;cases d
               ·exact absurd ((m8 y).elim (fun q=>q.trans d) (fun q=>q)) rB
               ·rw[hm] at q;injection q with q;injection q with _ _ _ q;subst q
                rw[h1] at c6;injection c6 with c6;subst c6
                exact⟨ak2,du⟩
             have W2:y∈dW:=qW fun fB=>rB (m6 y Ia.1 fB);obtain⟨b,o,dH,hP,ij⟩:=tR.fT y bN ai;have ec:cv.mem.get y=H.mem.get y:=(m8 y).resolve_right rB;obtain⟨Uq,N6,aqH,aoJ,IY⟩:=Ia.2;have auv:=dH;rw[ec,IY] at dH;injection dH with dH;subst dH
             have atm:=m7 y W2 _ _ _ _ _ (ec.trans IY);refine⟨⟨Uq,N6,aqH,aoJ,ec.trans IY⟩,W2,_,ec.trans IY,?_⟩;rw[aw,g1] at hP;injection hP with hP;subst hP
             obtain⟨fm,z2,z3,z4,z5,aqs,aqt⟩:=ij;refine⟨fm,by rw[RC];exact z2,z3,z4,fun q=>(by cases q),fun j v v' a b=>?_,aqt⟩;rw[Mg _ _ _ _ (by rw[<-bX.1,fl,g2];rw[nA] at BF;omega)] at b;have a':=(dY.1 a).1;rw[an (by omega)] at b;exact aqs j v v' a b)
           (by
            refine⟨rfl,by rw[RC];exact g2,g3,by rw[HB];exact BF,fun q=>(by cases q),fun j v v' a b=>?_,g7⟩;rw[Mg _ _ _ _ (by rw[<-bX.1,fl,g2];rw[nA] at BF;omega)] at b;rw[SF] at a;rw[wj] at a;split at a
            ·rename_i a';rw[an (by omega)] at b;refine PQ.2 j v v' a ?_;rw[kK,aE a'];simpa using b
            ·rename_i a';have V7:=(dY.1 a).1;rw[aE (by rw[<-bX.1];omega)] at b;exact bX.2 _ v v' a b)
          refine⟨.slice (some ⟨L.r,0,none⟩) (c'+n) eh,_,_,?_,G7,Hg.trans Hh,?_⟩
          ·exact Ma hh hx eS el hn i hu jO xG ao (some ⟨L.r,0,none⟩) c' eh n dR rW _ hlen o4 nM (fun a q=>by
            injection q with q;subst q
            rw[Addr.rc,sU,lC];exact dw) (fun q=>by cases q)
          ·exact .pW cv.ak 0 (c'+n) eh L (bY.kW _ _ _) nM (by rw[KG];exact c3)
         ·--it asr
          have iB:=Rq (P:=P) (w:=w) hh hx eS el hn i z hu jO xG ao xV (some ⟨L.r,0,none⟩) c' eh n dR (c.toList.take (c'*sz)) rW hlen
           (fun gd=>by
            rw[sU];refine run_firstCells_some (P:=P) {w with drawn:=gd} sz c' ⟨L.r,0,none⟩ c' eh _ (by rw[<-PQ.1,wj]) (fun j v a'=>?_);rw[Addr.rc,lC];have:=cell_of_row (w:={w with drawn:=gd}) g1 j;rw[this];rw[kK] at a';split at a'
            ·simpa using a'
            ·cases a')
           (fun gd=>by rw[sU];exact de gd) (by omega) bb a7
          have lM:=grownCap_ge w (c'+n) eh el
          obtain⟨G7,Hh⟩:=tR.drew.YN (H':=CZ) (f:=bI) (l:=dW) (l0:=l) (cells:=ev++new) (elem:=el) (eA:=eA) (sh:=sh)
           (o:=.cells ((c.toList.take (c'*sz)).toArray++(rW.toArray++Builtin.zeroCells z.cells (grownCap w (c'+n) eh el -(c'+n)))) el) (L:=⟨w.heap.size,grownCap w (c'+n) eh el*sz,sz⟩) m4 m5 m6 o0 aL (by omega) (by omega) cu jr xT rfl
           (Oo (PQ.mono (tR.xk _)) (bX.mono (tR.xk _)) (by rw[g3,KG]) b8 HB lM)
          refine⟨_,_,_,iB,G7,Hg.trans Hh,?_⟩;exact .pW cv.ak 0 (c'+n) _ ⟨w.heap.size,grownCap w (c'+n) eh el*sz,sz⟩ (bY.kW _ _ _) lM (by simp)
        ·--a slice avs room
         have iB:=Rq (P:=P) (w:=w) hh hx eS el hn i z hu jO xG ao xV (some ⟨L.r,gf,none⟩) 0 0 n dR [] rW hlen
          (fun gd=>by simp[Builtin.firstCells,loadCells,loadCellsFrom])
          (fun gd=>by rw[sU];exact de gd) (by omega) bb a7
         have lM:=grownCap_ge w (0+n) 0 el;have ai1:ev=[]:=q5.1 (by omega);subst ai1
         obtain⟨G7,Hh⟩:=tR.drew.YN (H':=CZ) (f:=bI) (l:=dW) (l0:=l) (cells:=[]++new) (elem:=el) (eA:=eA) (sh:=sh)
          (o:=.cells (([]:List Value).toArray++(rW.toArray++Builtin.zeroCells z.cells (grownCap w (0+n) 0 el -(0+n)))) el) (L:=⟨w.heap.size,grownCap w (0+n) 0 el*sz,sz⟩) m4 m5 m6 o0 aL (by omega) (by omega) cu jr xT rfl
          (Oo (b0.nil _) (bX.mono (tR.xk _)) (by rw[g3,KG]) b8 HB lM)
         refine⟨_,_,_,iB,G7,Hg.trans Hh,?_⟩;exact .pW cv.ak 0 (0+n) _ ⟨w.heap.size,grownCap w (0+n) 0 el*sz,sz⟩ (bY.kW _ _ _) lM (by simp)
       |_=>simp at he
    ·rw[Nd Em,dT] at he
     --Fi exact aur
     have om:∀a,base=some a->a.spot=none:=fun a q=>by
      subst q;cases q:a.spot with
      |none=>rfl
      |some k=>
       exfalso;cases aD:Nat.ble (c'+n) il with
       |true=>rw[aD] at he;simp[q] at he
       |false=>rw[aD] at he;simp[zI,q] at he
     have OV:(base=none/\c4=.slice none c' il)\/(∃id off L,base=some ⟨id,off,none⟩/\μ id=some L/\c4=.slice (some ⟨L.r,off,none⟩) c' il):=by
      cases base with
      |none=>exact .inl ⟨rfl,hs.uK⟩
      |some a=>
       obtain⟨id,off,L,gf,eh,rfl,bS,rfl,ar,_,tZ⟩:=hs.yl (.inl (om a rfl));rcases tZ with⟨_,rfl,rfl⟩|⟨q,_⟩|⟨q,_⟩
       ·exact .inr ⟨id,gf,L,rfl,bS,rfl⟩
       ·exact absurd q Em
       ·exact absurd q Em
     cases nM:Nat.ble (c'+n) il with
     |true=>
      rw[nM,b7] at he;have nM:=hV nM;rcases OV with⟨rfl,rfl⟩|⟨id,off,L,rfl,bS,rfl⟩
      ·simp only at he;cases jw:Nat.beq n 0 with
       |false=>rw[jw] at he;simp at he
       |true=>
        rw[jw,b7] at he;simp only[cp,dB] at he;obtain⟨rfl,rfl⟩:=he;have jw:=eO jw;subst jw;refine⟨_,w,μ,?_,h,Step.refl _ _,hs⟩;exact Ma hh hx eS elem hn i hu jO xG ao none c' il 0 dR rW w hlen o4 nM (fun a q=>by cases q) (fun _=>rfl)
      ·simp only at he;cases dw:rl H id (off+c'*sz) new with
       |none=>rw[dw] at he;simp at he
       |some H1=>
        rw[dw] at he;simp only[cp,dB] at he;obtain⟨rfl,rfl⟩:=he;obtain⟨br,bm,a2,a3⟩:=N2 h bS bX dw;refine⟨.slice (some ⟨L.r,off,none⟩) (c'+n) il,br,μ,?_,a2,a3,?_⟩
        ·exact Ma hh hx eS elem hn i hu jO xG ao (some ⟨L.r,off,none⟩) c' il n dR rW br hlen o4 nM (fun a q=>by
          injection q with q;subst q
          rw[Addr.rc,sU];exact bm) (fun q=>by cases q)
        ·have cV:il<cZ:=by
          obtain⟨_,_,_,_,_,_,_,_,_,_,tZ⟩:=hs.yl (.inl rfl);rcases tZ with⟨q,_⟩|⟨q,_⟩|⟨q,_⟩
          ·exact q
          ·exact absurd q Em
          ·exact absurd q Em
         exact .nU id off _ _ L bS cV
     |false=>
      rw[nM,dT,show zI base=true from by rcases OV with⟨rfl,_⟩|⟨_,_,_,rfl,_⟩<;>rfl,b7] at he;have nM:il<c'+n:=by
       rcases ji il (c'+n) with q|q
       ·exact q
       ·rw[j8 q] at nM;cases nM
      cases hold:js H sz c' (.slice base c' il) with
      |none=>rw[hold] at he;simp at he
      |some ev=>
       rw[hold] at he;simp only at he;obtain⟨Yd,uC,wj⟩:=Kq h hs (m:=c') rfl (cW _) hold;cases lg:Nat.beq ev.length (c'*sz) with
       |false=>rw[lg] at he;simp at he
       |true=>
        rw[lg,b7] at he;have lg:=eO lg;unfold fresh at he;cases fB:H.nl (ev++new) elem false with
        |none=>rw[fB] at he;simp at he
        |some p=>
         obtain⟨alv,H1⟩:=p;rw[fB] at he;simp only[cp,dB] at he;obtain⟨rfl,rfl⟩:=he;have lM:=grownCap_ge w (c'+n) il elem;have HB:(ev++new).length=(c'+n)*sz:=by rw[dP,lg,fl,nA]
         obtain⟨bm,a2,rfl⟩:=h.drew.QG (o:=.cells (Yd.toArray++(rW.toArray++Builtin.zeroCells z.cells (grownCap w (c'+n) il elem -(c'+n)))) elem) (L:=⟨w.heap.size,grownCap w (c'+n) il elem*sz,sz⟩) fB rfl
          (fun f=>Oo (uC.mono (h.xk _)) (bX.mono (h.xk _)) (RB eV) b8 HB lM)
         have Es:∃b',c4=.slice b' c' il:=by
          rcases OV with⟨_,q⟩|⟨_,_,_,_,_,q⟩
          ·exact⟨_,q⟩
          ·exact⟨_,q⟩
         obtain⟨b',rfl⟩:=Es
         have iB:=Rq (P:=P) (w:=w) hh hx eS elem hn i z hu jO xG ao xV b' c' il n dR Yd rW hlen
          (fun gd=>by rw[sU];exact wj gd) (fun gd=>by rw[sU];exact de gd) nM bb a7
         exact⟨_,_,_,iB,bm,a2,.pW H.ak 0 (c'+n) _ _ (bY.kW _ _ _) lM (by simp)⟩
   |_=>simp at he
  |_=>simp at he
end
end
end Go.Cre
namespace Go.Cre
noncomputable section
open Go.RowKit
section
variable {P:Program}{B:Nat->Prop}{w0 w:World}{μ:bY}{H H':aA}
theorem aeO(h:b9 P B w0 μ H w){r7 hh eS:TypeId}{d hB s c4 v:Value}(aV:bB μ d hB)(hs:bB μ s c4)(he:GM P H r7 d s=some (v,H')):
 ∃v' br,(Builtin.copy_ #[r7,hh] eS #[hB,c4]).run P w=.ok v' br/\b9 P B w0 μ H' br/\Step μ μ H H'/\bB μ v v':=by
 unfold GM at he;cases hu:P.underlying r7 with
 |none=>rw[hu] at he;simp at he
 |some t=>
  rw[hu] at he;cases t with
  |slice elem=>
   cases d with
   |slice base vp arZ=>
    cases av:rS s with
    |none=>rw[av] at he;simp at he
    |some c'=>
     rw[av] at he;simp only at he;cases eV:ef P elem with
     |none=>rw[eV] at he;simp at he
     |some sz=>
      rw[eV] at he;simp only at he;generalize aP:(bif Nat.ble c' vp then c' else vp)=n at he;have K5:Nat.min c' vp=n:=by
          rw[<-aP];cases ap:Nat.ble c' vp with
          |true=>have:=hV ap;simp;exact mu this
          |false=>
           have:¬c'<=vp:=fun q=>by rw[j8 q] at ap;cases ap
           simp;exact Nat.min_eq_right (by omega)
      have aiR:n<=c':=by rw[<-K5];exact Nat.min_le_left _ _
      cases aD:js H sz n s with
      |none=>rw[aD] at he;simp at he
      |some cells=>
       rw[aD] at he;simp only at he;obtain⟨cells',c1,c2⟩:=Kq h hs av aiR aD;have hlen:=Xt (P:=P) hs av;have vO:(Builtin.firstCells sz n c4).run P w=.ok cells'.toArray w:=c2 w.drawn;cases base with
       |none=>
        simp only[cp,dB] at he;obtain⟨rfl,rfl⟩:=he;rw[aV.uK];refine⟨.int .i64 n,w,?_,h,Step.refl _ _,.atom _ rfl⟩;simp[Builtin.copy_,e1 hu,hlen,K5,kG eV,vO,goInt]
       |some a=>
        have om:a.spot=none:=by
         cases q:a.spot with
         |none=>rfl
         |some _=>simp[q] at he
        obtain⟨id,off,L,gf,eh,rfl,bS,rfl,ar,_,_⟩:=aV.yl (.inl om);simp only at he;cases bx:cells.all eM with
        |false=>rw[bx] at he;simp at he
        |true=>
         rw[bx] at he;simp only[lY,dT] at he;cases dw:rl H id off cells with
         |none=>rw[dw] at he;simp at he
         |some H1=>
          rw[dw] at he;simp only[cp,dB] at he;obtain⟨rfl,rfl⟩:=he;obtain⟨br,bm,a2,a3⟩:=N2 h bS c1 dw;refine⟨.int .i64 n,br,?_,a2,a3,.atom _ rfl⟩;have ajQ:(storeCells ⟨L.r,gf,none⟩ cells').run P w=.ok () br:=by
            by_cases bw:0<vp
            ·rw[ar bw];exact bm
            ·have jw:n=0:=by rw[<-K5];have:vp=0:=by omega
                             rw[this];exact Nat.min_zero _
             have:cells=[]:=by
              subst jw;cases s with
              |slice b l c=>cases b with
               |none=>simp[js] at aD;exact aD
               |some b=>
                simp[js] at aD;exact aD
              |string s=>simp[js,takeN] at aD;exact aD
              |_=>simp[rS] at av
             subst this;have:=c1.lm;subst this;simp only[storeCells] at bm ⊢;exact bm
          simp[Builtin.copy_,e1 hu,hlen,K5,kG eV,vO,goInt,ajQ]
   |_=>simp at he
  |_=>simp at he
theorem amT:∀{kv:List Field} {ew:List (Nat×Nat)},places P kv=some ew->ew.length=kv.length/\∀w,(kv.mapM (fun f=>Prod.mk f.offset <$> sizeOf f.type):Sem (List (Nat×Nat))).run P w=.ok ew w:=by
 intro kv;induction kv with
 |nil=>intro ew h;simp[places] at h;subst h;exact⟨rfl,fun w=>by simp⟩
 |cons f kv aI=>
  intro ew h;simp only[places] at h;cases hs:ef P f.type with
  |none=>rw[hs] at h;simp at h
  |some n=>
   rw[hs] at h;cases au:places P kv with
   |none=>rw[au] at h;simp at h
   |some r=>
    rw[au] at h;simp only[cp] at h;subst h;obtain⟨a,b⟩:=aI au;refine⟨by simp[a],fun w=>?_⟩;simp[SH,kG hs,b]
theorem afx(vs:List Value):∀(c:Array Value) (off k:Nat),(vs.zipIdx k).foldl (fun cs (x:Value×Nat)=>cs.setIfInBounds (off+x.2) x.1) c=qN c (off+k) vs:=by
 induction vs with
 |nil=>intro c off k;rfl
 |cons v vs aI=>intro c off k;simp only[List.zipIdx_cons,List.foldl_cons,qN];rw[aI];congr 1
theorem aok{off:Nat}{cells vs Dp:List Value}(h:gg off cells vs=some Dp):qN cells.toArray off vs=Dp.toArray:=by
 obtain⟨aL,bk,cG⟩:=RF h;apply Fu
 intro i;rw[Mg _ _ _ _ (by simpa using bk)];have:=cG i;simp only[aa4];rw[this]
theorem aol{off:Nat}{cells cells' vs kH r:List Value}(aC:b0 μ cells cells')(ay:b0 μ vs kH)(h:gg off cells vs=some r):∃dx,gg off cells' kH=some dx/\b0 μ r dx:=by
 induction off generalizing cells cells' r with
 |zero=>
  induction vs generalizing cells cells' kH r with
  |nil=>
   have:=ay.lm;subst this;simp[gg] at h;subst h;exact⟨cells',by simp[gg],aC⟩
  |cons v vs aI=>
   obtain⟨v',ek,rfl,aa,ae⟩:=ay.jP;cases cells with
   |nil=>simp[gg] at h
   |cons c cs=>
    obtain⟨cd,cS,rfl,g1,g2⟩:=aC.jP;simp only[gg] at h ⊢;cases hs:gg 0 cs vs with
    |none=>rw[hs] at h;simp at h
    |some nq=>
     rw[hs] at h;simp only[cp] at h;subst h;obtain⟨dx,aL,bk⟩:=aI ae g2 hs;rw[aL];exact⟨v'::dx,rfl,b0.cons aa bk⟩
 |succ n aI=>
  cases cells with
  |nil=>simp[gg] at h
  |cons c cs=>
   obtain⟨cd,cS,rfl,g1,g2⟩:=aC.jP;simp only[gg] at h ⊢;cases hs:gg n cs vs with
   |none=>rw[hs] at h;simp at h
   |some nq=>
    rw[hs] at h;simp only[cp] at h;subst h;obtain⟨dx,aL,bk⟩:=aI g2 hs;rw[aL];exact⟨cd::dx,rfl,b0.cons g1 bk⟩
def wO(μ:bY)(l l':List (Nat×Value)):Prop:=l.length=l'.length/\∀(i:Nat) p hO,l[i]?=some p->l'[i]?=some hO->p.1=hO.1/\bB μ p.2 hO.2
theorem wO.jP{p:Nat×Value}{l m:List (Nat×Value)}(h:wO μ (p::l) m):∃v' l',m=(p.1,v')::l'/\bB μ p.2 v'/\wO μ l l':=by
 cases m with
 |nil=>have:=h.1;simp at this
 |cons q l'=>
  obtain⟨a,b⟩:=h.2 0 p q rfl rfl;refine⟨q.2,l',by rw[a],b,by have:=h.1;simpa using this,fun i x y U ai=>h.2 (i+1) x y (by simpa using U) (by simpa using ai)⟩
theorem Kv{place:Nat->Option (Nat×Nat)}:∀{parts mI:List (Nat×Value)} {cells cells' r:List Value},wO μ parts mI->b0 μ cells cells'->nK place cells parts=some r->
 ∃dx,Instr.fill place cells'.toArray mI=some dx.toArray/\b0 μ r dx:=by
 intro parts;induction parts with
 |nil=>
  intro mI cells cells' r au aC he;have:mI=[]:=q5.1 (by have:=au.1;simpa using this.symm);subst this;simp[nK] at he;subst he;exact⟨cells',rfl,aC⟩
 |cons p parts aI=>
  intro mI cells cells' r au aC he;obtain⟨v',l',rfl,aa,ae⟩:=au.jP;obtain⟨i,v⟩:=p;simp only[nK] at he;cases dE:place i with
  |none=>rw[dE] at he;simp at he
  |some q=>
   obtain⟨off,size⟩:=q;rw[dE] at he;simp only at he;cases ap:Nat.beq v.cells.toList.length size with
   |false=>rw[ap] at he;simp at he
   |true=>
    rw[ap,b7] at he;have ap:=eO ap;cases hs:gg off cells v.cells.toList with
    |none=>rw[hs] at he;simp at he
    |some Dp=>
     rw[hs] at he;simp only at he;have ay:=aa.cells;obtain⟨acm,s1,s2⟩:=aol aC ay hs;obtain⟨dx,a,b⟩:=aI ae s2 he;refine⟨dx,?_,b⟩;obtain⟨aL,bk,cG⟩:=RF s1;have rQ:=ay.1;have bE:v'.cells.size=size:=by simp at rQ ap;omega
     have lk:v'.cells.toList.length=v'.cells.size:=by simp
     have ah5:(v'.cells.zipIdx.foldl (fun cs (x:Value×Nat)=>cs.setIfInBounds (off+x.2) x.1) cells'.toArray)=acm.toArray:=by
      rw[<-Array.foldl_toList,Array.toList_zipIdx,afx,tn];exact aok s1
     have G3:¬(v'.cells.size≠size):=by omega
     have Oq:¬(off+v'.cells.size>cells'.toArray.size):=by
      simp only[SM];rw[<-lk];omega
     simp only[Instr.fill,dE];rw[an (by simp only[yw,GB];exact not_or.2 ⟨G3,Oq⟩),ah5];exact a
theorem aeL{t:TypeId}{parts mI:List (Nat×Value)}{v:Value}(au:wO μ parts mI)(he:GK P t parts=some v)(w:World):
 ∃v',(Instr.build t mI.toArray).run P w=.ok v' w/\bB μ v v':=by
 unfold GK at he;cases bE:fy P t with
 |none=>rw[bE] at he;simp at he
 |some z=>
  rw[bE] at he;cases hu:P.underlying t with
  |none=>rw[hu] at he;simp at he
  |some d=>
   rw[hu] at he;have wa:plain z=true->b0 μ z.cells.toList z.cells.toList:=fun q=>(qG q).cells;cases d with
   |struct fields=>
    simp only at he;cases dE:plain z with
    |false=>rw[dE] at he;simp at he
    |true=>
     rw[dE,b7] at he;cases PZ:places P fields.toList with
     |none=>rw[PZ] at he;simp at he
     |some ew=>
      rw[PZ] at he;simp only at he;cases aD:nK (nth ew) z.cells.toList parts with
      |none=>rw[aD] at he;simp at he
      |some cells=>
       rw[aD] at he;simp only[cp] at he;subst he;obtain⟨dx,a,b⟩:=Kv au (wa dE) aD;obtain⟨_,hm⟩:=amT PZ;refine⟨.agg dx.toArray,?_,bB.J1 b⟩;have aP:(fun i=>ew[i]?)=nth ew:=by funext i;rw[kE]
       have iB:(Array.mapM (fun f=>Prod.mk f.offset <$> sizeOf f.type) fields:Sem (Array (Nat×Nat))).run P w=.ok ew.toArray w:=by
        rw[aaP];simp[hm]
       have bV:Instr.fill (fun x=>ew[x]?) z.cells mI=some dx.toArray:=by rw[aP];simpa using a
       simp[Instr.build,yu bE,e1 hu,iB,bV]
   |array len elem=>
    simp only at he;cases dE:plain z with
    |false=>rw[dE] at he;simp at he
    |true=>
     rw[dE,b7] at he;cases hs:ef P elem with
     |none=>rw[hs] at he;simp at he
     |some sz=>
      rw[hs] at he;simp only at he;cases aD:nK (fun i=>some (i*sz,sz)) z.cells.toList parts with
      |none=>rw[aD] at he;simp at he
      |some cells=>
       rw[aD] at he;simp only[cp] at he;subst he;obtain⟨dx,a,b⟩:=Kv au (wa dE) aD;refine⟨.agg dx.toArray,?_,bB.J1 b⟩;have bV:Instr.fill (fun i=>some (i*sz,sz)) z.cells mI=some dx.toArray:=by simpa using a
       simp[Instr.build,yu bE,e1 hu,kG hs,bV]
   |_=>simp at he
theorem aeK(h:b9 P B w0 μ H w){t:TypeId}{len:Nat}{parts mI:List (Nat×Value)}{v:Value}(au:wO μ parts mI)(he:GL P H t len parts=some (v,H')):
 ∃v' br bD,(Instr.buildSlice t len mI.toArray).run P w=.ok v' br/\b9 P B w0 bD H' br/\Step μ bD H H'/\bB bD v v':=by
 unfold GL at he;cases hu:P.underlying t with
 |none=>rw[hu] at he;simp at he
 |some d=>
  rw[hu] at he;cases d with
  |slice elem=>
   simp only at he;cases hs:ef P elem with
   |none=>rw[hs] at he;simp at he
   |some sz=>
    rw[hs] at he;cases bE:fy P elem with
    |none=>rw[bE] at he;simp at he
    |some z=>
     rw[bE] at he;simp only at he;cases aC:(Nat.ble len 100000&&Nat.ble (len*sz) 100000&&plain z&&Nat.beq z.cells.toList.length sz) with
     |false=>rw[aC] at he;simp at he
     |true=>
      rw[aC,b7] at he;simp only[fS] at aC;obtain⟨⟨⟨np,bb⟩,a7⟩,b8⟩:=aC;have np:=hV np;have bb:=hV bb;have b8:=eO b8;cases aD:nK (fun i=>some (i*sz,sz)) (gG z.cells.toList len) parts with
      |none=>rw[aD] at he;simp at he
      |some cells=>
       rw[aD] at he;simp only at he;cases ar:cells.all eM with
       |false=>rw[ar] at he;simp at he
       |true=>
        rw[ar,b7] at he;cases aP:uB H elem cells with
        |none=>rw[aP] at he;simp at he
        |some p=>
         obtain⟨id,H1⟩:=p;rw[aP] at he;simp only[cp,dB] at he;obtain⟨rfl,rfl⟩:=he;have wa:b0 μ z.cells.toList z.cells.toList:=(qG a7).cells;have Bs:b0 μ (gG z.cells.toList len) (gG z.cells.toList len):=b0.I3 fun v ay=>
          ML (p:=fun v=>bB μ v v) ay (fun u hu=>by
           obtain⟨i,ao⟩:=kp.1 hu;exact wa.2 i u u ao ao)
         obtain⟨dx,a,b⟩:=Kv au Bs aD;obtain⟨bD,L,m1,m2,m3,m4,_⟩:=QO h b aP;refine⟨.slice (some ⟨w.heap.size,0,none⟩) len len,_,bD,?_,m1,m2,?_⟩
         ·have lk:=MM z.cells.toList len;have ake:z.cells.size=sz:=by simpa using b8
          have OX:¬(16777216<len*sz):=by omega
          rw[b8] at lk;simp only[aaQ] at lk;by_cases bw:len*sz=0
          ·have lO:gG z.cells.toList len=[]:=q5.1 (by rw[Sa,b8];exact bw);rw[lO] at a;have bV:Instr.fill (fun i=>some (i*sz,sz)) (Array.map (fun _=>(default:Value)) (Array.range 0)) mI=some dx.toArray:=by
            have iL:Array.map (fun _:Nat=>(default:Value)) (Array.range 0)=#[]:=by simp
            rw[iL];exact a
           simp[Instr.buildSlice,e1 hu,kG hs,bw,bV,newRow,newObj,Sem.run]
          ·have bV:Instr.fill (fun i=>some (i*sz,sz)) ((Array.range (len*sz)).map fun i=>z.cells[i % z.cells.size]!) mI=some dx.toArray:=by rw[lk];exact a
           simp[Instr.buildSlice,e1 hu,kG hs,OX,bw,yu bE,bV,newRow,newObj,Sem.run]
         ·rw[<-m4];refine .nU id 0 len len L m3 ?_;have:(100000:Nat)<cZ:=by decide
          omega
  |_=>simp at he
end
end
end Go.Cre
namespace Go.Cre
noncomputable section
open Go.RowKit
section
variable {P:Program}{B:Nat->Prop}{w0 w:World}{μ:bY}{H H':aA}
theorem UU{α:Type}{s:Sem α}{a:α}(h:eY P s=some a)(w:World):s.run P w=.ok a w:=by
 induction s generalizing w with
 |pure b=>simp[eY] at h;subst h;rfl
 |program k aI=>exact aI P (by simpa[eY] using h) w
 |mark m k aI=>exact aI (by simpa[eY] using h) w
 |_=>simp[eY] at h
theorem b9.aqa(h:b9 P B w0 μ H w){id:Nat}{L:Loc}{b b':fg}{o':Obj}(bS:μ id=some L)(aq:H.bW<=id)(hm:H.mem.get id=some b)(kc:∀c e o f z s,b≠.row c e o f z s)(aV:b≠.dead)
 (hu:H.upd id b'=some H')(kP:∀c e o f z s,b'≠.row c e o f z s)(ap:km P μ L b' o'):
 b9 P B w0 μ H' {w with heap:=w.heap.setIfInBounds L.r o'}/\Step μ μ H H':=by
 obtain⟨jB,lX,jc,qQ,nV⟩:=aA.wB hu;have vS:H.mem.get id≠some .dead:=by rw[hm];intro q;injection q with q;exact aV q
 refine h.write bS aq vS jB jc qQ (by rw[nV];simp) (fun x U=>.inl (by rw[nV,an U])) ?_ (fun f l av=>.inl (by rw[lX];exact av)) (fun f l av=>.inl (by rw[<-lX];exact av))
  (fun c e f z s q=>absurd q (kP _ _ _ _ _ _)) (fun q=>by
   rw[hm] at q;cases b with
   |row c e o f z s=>exact absurd rfl (kc _ _ _ _ _ _)
   |_=>simp[kg] at q) ap
 intro x bN U oW aw;rcases h.sep id x L bN (Ne.symm U) bS oW aw.symm with d|d|⟨cP,l,⟨c1,aL,fm,Mb,q⟩,_⟩
 ·exact absurd d vS
 ·rw[nV,an U];exact d
 ·rw[hm] at q;injection q with q;exact absurd q (kc _ _ _ _ _ _)
end
end
end Go.Cre

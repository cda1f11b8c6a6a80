/- A part of the proof of SampleParts. -/
import Derived.Test.YtdbhjgpppmkagaaGreatCag
import Derived.Orders
set_option linter.unusedVariables false
set_option linter.unusedSimpArgs false
namespace Go.Cre
noncomputable section
open Go.RowKit
section
variable {P:Program}{B:Nat->Prop}{w0 w:World}{μ:bH}{H H':ao}
theorem alD(z:Array Value)(n:Nat):(Builtin.zeroCells z n).size=n*z.size:=by simp[Builtin.zeroCells]
theorem LH{a b bA b':List Value}{elem:TypeId}{z:Value}{aj Fu cap f eD r:Nat}{sh:Bool}{bk:bH}(aW:bN bk a bA)(ai:bN bk b b')(eI:P.cellsOf elem=aj)(bC:z.cells.toList.length=aj)(ay:(a++b).length=Fu*aj)(pf:Fu<=cap):
 jm P bk ⟨r,cap*aj,aj⟩ (.row (a++b) elem true f eD sh) (.cells (bA.toArray++(b'.toArray++Builtin.zeroCells z.cells (cap -Fu))) elem):=by
 have av:=aW.append ai;have qi:z.cells.size=aj:=by simpa using bC
 have adb:(bA.toArray++(b'.toArray++Builtin.zeroCells z.cells (cap -Fu)))=(bA++b').toArray++Builtin.zeroCells z.cells (cap -Fu):=by
  apply qI;simp
 rw[adb];refine⟨rfl,?_,eI,?_,(fun h=>by cases h),fun i v v' a b=>?_,⟨fun off _ aa ab=>by simp at ab,fun _=>.inl rfl⟩⟩
 ·rw[Array.size_append,alD,qi];simp only[PV];rw[<-av.1,ay,<-mC];congr 1;omega
 ·show(a++b).length<=cap*aj;rw[ay];exact mD _ pf
 ·refine av.2 i v v' a ?_;have ak:i<(bA++b').length:=by
   have:=(dv.1 a).1;have:=av.1;omega
  rw[Xn (by simpa using ak)] at b;simpa using b
theorem QK{a b:Nat}(h:Nat.blt a b=false):b<=a:=by
 rcases jo a b with q|q
 ·have:=kK q;unfold Nat.blt at h;simp_all
 ·exact q
theorem aaz(h:bR P B w0 μ H w){fN hq eV:TypeId}{eZ:TypeDesc}{s cZ x dD v:Value}(al:bj μ s cZ)(I:bj μ x dD)(kg:P.underlying hq=some eZ)(vu:∀k,eZ≠.int k)(he:pa P H fN s x=some (v,H')):
 ∃v' bb bk,(Builtin.append_ #[fN,hq] eV #[cZ,dD]).run P w=.ok v' bb/\bR P B w0 bk H' bb/\Step μ bk H H'/\bj bk v v':=by
 unfold pa at he;cases hu:P.underlying fN with
 |none=>rw[hu] at he;simp at he
 |some d=>
  rw[hu] at he;cases d with
  |slice elem=>
   cases s with
   |slice base c4 h3=>
    simp only at he;cases eI:eB P elem with
    |none=>rw[eI] at he;simp at he
    |some aj=>
    rw[eI] at he;cases h1:tp P elem with
    |none=>rw[h1] at he;simp at he
    |some hZ=>
    rw[h1] at he;cases bC:fO P elem with
    |none=>rw[bC] at he;simp at he
    |some z=>
    rw[bC] at he;cases aM:ql x with
    |none=>rw[aM] at he;simp at he
    |some n=>
    rw[aM] at he;simp only at he;cases xd:(Nat.ble (c4+n) 1000000&&Nat.ble hZ 1000000&&Nat.beq z.cells.toList.length aj) with
    |false=>rw[xd] at he;simp at he
    |true=>
    rw[xd] at he;simp only[lK,dN] at he;simp only[fR] at xd;obtain⟨⟨aZ,aR⟩,bY⟩:=xd;have aZ:=hC aZ;have aR:=hC aR;have bY:=eK bY;cases aw:jt H aj n x with
    |none=>rw[aw] at he;simp at he
    |some new=>
    rw[aw] at he;simp only at he;cases jv:(new.all eT&&Nat.beq new.length (n*aj)) with
    |false=>rw[jv] at he;simp at he
    |true=>
    rw[jv] at he;simp only[lK,dN] at he;simp only[fR] at jv;have ep:=eK jv.2;obtain⟨qp,b5,dr⟩:=Hk h I aM (dH _) aw;have hlen:=Uc (P:=P) I aM;obtain⟨i,ak,rfl⟩:=KC h1
    have qi:i.zero=some z:=by simpa[fO,ak] using bC
    have rp:i.size=aj:=by simpa[eB,ak] using eI
    have sz:(Builtin.firstCells i.size n dD).run P w=.ok qp.toArray w:=by rw[rp];exact dr w.drawn
    have dU:(cR:Nat)=1208925819614629174706176:=rfl;by_cases Bt:h3=cR
    ·subst Bt;rw[hX,cc] at he;cases base with
     |none=>simp at he
     |some a=>
      obtain⟨id,off,L,ga,dY,rfl,bB,rfl,an,_,st⟩:=al.uz (.inr (.inr (by decide)));simp only at he;cases hm:H.mem.get id with
      |none=>rw[hm] at he;simp at he
      |some b=>
       rw[hm] at he;cases b with
       |row cells el opn br eD sh=>
        cases opn with
        |false=>simp at he
        |true=>
        simp only at he;cases ov:(Nat.beq el elem&&!Nat.blt id H.bq&&Nat.ble eD (off+c4*aj)) with
        |false=>rw[ov] at he;simp at he
        |true=>
        rw[ov] at he;simp only[lK,dN] at he;simp only[fR,pJ] at ov;obtain⟨⟨cO,dI⟩,fK⟩:=ov;have cO:=eK cO;subst cO;have dI:=QK dI;have fK:=hC fK;obtain⟨c,f,b4,bX,cg,fJ,fV,gW,gJ⟩:=h.row bB hm;have Hz:L.aj=aj:=by rw[<-cg];exact Ox eI
        cases jy:Nat.beq n 0 with
        |true=>
         rw[jy,cc] at he;simp only[b6,da] at he;obtain⟨rfl,rfl⟩:=he;have jy:=eK jy;subst jy;have MO:qp=[]:=by
          have:=b5.1;rw[ep] at this;exact qL.1 (by omega)
         subst MO;refine⟨_,w,μ,?_,h,Step.refl _ _,al⟩;have hle:c4+0<=dY:=by
          rcases st with⟨bx,_⟩|⟨_,bT,_⟩|⟨_,bT,dA⟩<;>omega
         exact Jq fN hq eV el eZ i hu kg vu ak (some ⟨L.r,ga,none⟩) c4 dY 0 dD [] w hlen sz hle (fun a _=>rfl) (fun q=>by cases q)
        |false=>
        rw[jy,dN] at he;have anE:0<n:=by
         rcases Nat.eq_zero_or_pos n with q|q
         ·subst q;simp at jy
         ·exact q
        cases EM:Nat.beq off 0 with
        |false=>rw[EM] at he;simp at he
        |true=>
        rw[EM] at he;simp only[lK,dN] at he;have EM:=eK EM;subst EM;cases hold:takeN (c4*aj) cells with
        |none=>rw[hold] at he;simp at he
        |some eO=>
        rw[hold] at he;simp only at he;obtain⟨vU,vV,agk⟩:=Cs hold;cases jx:H.br.get br with
        |none=>rw[jx] at he;simp at he
        |some l=>
        rw[jx] at he;simp only at he;cases Bc:wY H id l with
        |none=>rw[Bc] at he;simp at he
        |some p=>
        obtain⟨dZ,H1⟩:=p;rw[Bc] at he;simp only at he;obtain⟨a',bd,bz,cM,ha,ru,BS,BT,afe,pre,an4,afd⟩:=ZL Bc;have MH:∀x,H1.mem.get x=H.mem.get x\/(H1.mem.get x=some .dead/\(jU (H.mem.get x)=true\/H.mem.get x=some .dead)):=fun x=>by
         rcases afe x with q|q
         ·exact .inl q
         ·exact .inr ⟨q.1,(h.kQ br l x jx q.2).2⟩
        obtain⟨Ed,HF⟩:=h.kill (H':=H1) a' bz cM MH (fun f l ay=>⟨l,by rw[bd];exact ay,bV _,fun x a b=>absurd a b⟩) (fun f l ay=>⟨l,by rw[<-bd];exact ay,bV _⟩)
        --sZ eO members ajZ stay Ym no Nu ao1 O5 is kept
        have adG:∀y∈dZ,∀c e f z s,H1.mem.get y=some (.row c e true f z s)->c.length<=cells.length:=fun y ah c e f z s q=>by
         have aeo:=Ed.tF br l (by rw[bd];exact jx);have h6:=aeo.sublist ha;rw[afd] at h6 ah;rcases ft.1 ah with rfl|ah
         ·rw[BS,hm] at q;injection q with q;injection q with q;subst q;exact dH _
         ·exact(PR.1 h6).1 y ah _ _ _ _ _ _ _ _ _ _ (by rw[BS];exact hm) q
        --sZ second cut
        cases cn:DF H1 dZ (Nat.beq cells.length (c4*aj)) with
        |none=>rw[cn] at he;simp at he
        |some p=>
        obtain⟨eJ,bZ⟩:=p;rw[cn] at he;simp only at he;unfold DF at cn
        have p3:bR P B w0 μ bZ w/\Step μ μ H bZ/\bZ.af=H.af/\bZ.cd=H.cd/\bZ.bq=H.bq/\bZ.br.get br=some l/\eJ.Sublist l/\(∀x,x∈l->x∉eJ->bZ.mem.get x=some .dead)/\
         (∀y∈eJ,∀c e f z s,bZ.mem.get y=some (.row c e true f z s)->c.length<=c4*aj)/\(∀x,bZ.mem.get x=H.mem.get x\/bZ.mem.get x=some .dead):=by
         cases ai:Nat.beq cells.length (c4*aj) with
         |true=>
          rw[ai,cc] at cn;simp only[b6,da] at cn;obtain⟨rfl,rfl⟩:=cn;have ai:=eK ai;exact⟨Ed,HF,a',bz,cM,by rw[bd];exact jx,ha,BT,fun y ah c e f z s q=>by have:=adG y ah c e f z s q;omega,fun x=>(MH x).imp (fun q=>q) And.left⟩
         |false=>
          rw[ai,dN] at cn;cases aH:rz H1 H1.af dZ with
          |none=>rw[aH] at cn;simp at cn
          |some Gn=>
           rw[aH] at cn;simp only[b6,da] at cn;obtain⟨rfl,rfl⟩:=cn;obtain⟨bl,bF,bO,b3,c2,cX⟩:=Iy aH;have jg:∀x,x∈dZ->Gn.mem.get x=some .dead:=fun x I=>c2 x I (fun e=>by
            have:=(Ed.kQ br l x (by rw[bd];exact jx) (ha.mem I)).1;omega)
           have MI:∀x,Gn.mem.get x=H1.mem.get x\/(Gn.mem.get x=some .dead/\(jU (H1.mem.get x)=true\/H1.mem.get x=some .dead)):=fun x=>by
            by_cases I:x∈dZ
            ·exact .inr ⟨jg x I,(Ed.kQ br l x (by rw[bd];exact jx) (ha.mem I)).2⟩
            ·exact .inl (cX x (.inl I))
           obtain⟨p3,En⟩:=Ed.kill (H':=Gn) bl bO b3 MI (fun f l ay=>⟨l,by rw[bF];exact ay,bV _,fun x a b=>absurd a b⟩) (fun f l ay=>⟨l,by rw[<-bF];exact ay,bV _⟩);refine⟨p3,HF.trans En,by omega,by omega,by omega,by rw[bF,bd];exact jx,mc _,fun x I _=>?_,fun y ah=>by simp at ah,fun x=>?_⟩
           ·by_cases lc:x∈dZ
            ·exact jg x lc
            ·have:=BT x I lc;rcases MI x with q|q
             ·rw[q];exact this
             ·exact q.1
           ·rcases MI x with q|q
            ·rw[q];exact(MH x).imp (fun q=>q) And.left
            ·exact .inr q.1
        obtain⟨p3,En,ct,eM,l1,sL,sM,BV,Un,Uo⟩:=p3;cases pp:bZ.qx br (bZ.af::eJ) with
        |none=>rw[pp] at he;simp at he
        |some gf=>
        rw[pp] at he;simp only at he;obtain⟨s1,s2,h2,xY,sW⟩:=ao.Cn pp;cases MM:gf.new (.row (eO++new) el true br eD sh) with
        |none=>rw[MM] at he;simp at he
        |some p=>
        obtain⟨af7,jI⟩:=p;rw[MM] at he;simp only[b6,da] at he;obtain⟨rfl,rfl⟩:=he;obtain⟨rfl,t1,t2,t3,t4,t5⟩:=ao.n1 MM;have aD:jI.af=bZ.af+1:=by omega
        have ch:∀m,jI.mem.get m=if m=bZ.af then some (.row (eO++new) el true br eD sh) else bZ.mem.get m:=fun m=>by rw[t5,s1,s2]
        have js:∀m,jI.br.get m=if m=br then some (bZ.af::eJ) else bZ.br.get m:=fun m=>by rw[t2,sW]
        have nR:br<bZ.cd:=by have:=h.pX _ _ _ _ _ _ hm;omega
        have EG:(eO++new).length=(c4+n)*aj:=by rw[er,vV,ep,mC]
        have vF:∀y∈eJ,∀c e f z s,bZ.mem.get y=some (.row c e true f z s)->c.length<=(eO++new).length:=fun y ah c e f z s q=>by
         have:=Un y ah c e f z s q;rw[er,vV];omega
        --O5 is kept,aoS
        have MR:bN μ eO (c.toList.take (c4*aj)):=by
         have:=gW.take (c4*aj);rw[<-vU,uN,k4 agk] at this;exact this
        rw[s1];rcases st with⟨bx,_⟩|⟨_,bT,rfl,dA⟩|⟨_,rfl,rfl⟩
        ·omega
        ·--a slice with room of an2 own,or none
         by_cases mT:c4+n<=dY
         ·--in place
          rw[Hz] at dA;have zy:(c4+n)*aj<=L.N:=by
           have:=mD aj mT;omega
          have c0:=VO (P:=P) L.r (c4*aj) el f qp 0 c w b4 (by rw[<-b5.1,ep,bX];rw[mC] at zy;omega) (fun j aU=>by
           rw[<-b5.1,ep] at aU;exact RX gJ (by rw[mC] at zy;omega) (by omega)) (Ye b5 jv.1)
          simp only[s9] at c0
          obtain⟨Ee,Eo⟩:=p3.ah1 (H':=jI) (f:=br) (id:=id) (l:=eJ) (l0:=l) (cells:=eO++new) (elem:=el) (eD:=eD) (sh:=sh) (o:=.cells c el f) (o':=.cells (pB c (c4*aj) qp) el f) (L:=L) sL sM BV nR bB (by omega) (h.new id L bB (by omega) (by rw[hm];intro q;cases q)) aD (by omega) (by omega) ch js vF
           (fun y bw ah ax=>by
            by_cases p7:bZ.mem.get y=some .dead
            ·exact .inl p7
            ·right
             have E7:y∈l/\vM H y br:=by
              by_cases ud:y=id
              ·subst ud;exact⟨ha.mem ru,⟨_,_,_,_,hm⟩⟩
              ·rcases h.sep id y L bw (Ne.symm ud) bB ah ax.symm with d|d|⟨dj,l',⟨bx,ve,kG,Jr,q⟩,dt,de,_,afD⟩
               ·rw[hm] at d;cases d
               ·exact absurd ((Uo y).elim (fun q=>q.trans d) (fun q=>q)) p7
               ·rw[hm] at q;injection q with q;injection q with _ _ _ q;subst q
                rw[jx] at de;injection de with de;subst de
                exact⟨afD,dt⟩
             have TJ:y∈eJ:=CI fun gj=>p7 (BV y E7.1 gj);obtain⟨b,o,dS,ho,hp⟩:=p3.fS y bw ah;have fg:bZ.mem.get y=H.mem.get y:=(Uo y).resolve_right p7;obtain⟨Rh,yY,alG,ajQ,FN⟩:=E7.2;have aoi:=dS;rw[fg,FN] at dS;injection dS with dS;subst dS
             have anx:=Un y TJ _ _ _ _ _ (fg.trans FN);refine⟨⟨Rh,yY,alG,ajQ,fg.trans FN⟩,TJ,_,fg.trans FN,?_⟩;rw[ax,b4] at ho;injection ho with ho;subst ho
             obtain⟨kG,nx,qG,oY,rR,s6,uD⟩:=hp;refine⟨kG,by rw[Oy];exact nx,qG,oY,fun q=>(by cases q),fun j v v' a b=>?_,uD⟩;rw[Jv _ _ _ _ (by rw[<-b5.1,ep,bX];rw[mC] at zy;omega)] at b;have aU:=(dv.1 a).1;rw[aq (by omega)] at b;exact s6 j v v' a b)
           (by
            refine⟨rfl,by rw[Oy];exact bX,cg,by rw[EG];exact zy,fun q=>(by cases q),fun j v v' a b=>?_,gJ⟩;rw[Jv _ _ _ _ (by rw[<-b5.1,ep,bX];rw[mC] at zy;omega)] at b;rw[PJ] at a;rw[vV] at a;split at a
            ·rename_i aU;rw[aq (by omega)] at b;refine MR.2 j v v' a ?_;rw[kr,aF aU];simpa using b
            ·rename_i aU;have Mz:=(dv.1 a).1;rw[aF (by rw[<-b5.1];omega)] at b;exact b5.2 _ v v' a b)
          refine⟨.slice (some ⟨L.r,0,none⟩) (c4+n) dY,_,_,?_,Ee,En.trans Eo,?_⟩
          ·exact Jq fN hq eV el eZ i hu kg vu ak (some ⟨L.r,0,none⟩) c4 dY n dD qp _ hlen sz mT (fun a q=>by
            injection q with q;subst q
            rw[Addr.pQ,rp,lN];exact c0) (fun q=>by cases q)
          ·exact .oS bZ.af 0 (c4+n) dY L (bH.jB _ _ _) mT (by rw[Hz];exact dA)
         ·--it amR
          have gK:=Ok (P:=P) (w:=w) fN hq eV el eZ i z hu kg vu ak qi (some ⟨L.r,0,none⟩) c4 dY n dD (c.toList.take (c4*aj)) qp hlen
           (fun gD=>by
            rw[rp];refine run_firstCells_some (P:=P) {w with drawn:=gD} aj c4 ⟨L.r,0,none⟩ c4 dY _ (by rw[<-MR.1,vV]) (fun j v aU=>?_);rw[Addr.pQ,lN];have:=cell_of_row (w:={w with drawn:=gD}) b4 j;rw[this];rw[kr] at aU;split at aU
            ·simpa using aU
            ·cases aU)
           (fun gD=>by rw[rp];exact dr gD) (by omega) aZ aR
          have pk:=grownCap_ge w (c4+n) dY el
          obtain⟨Ee,Eo⟩:=p3.drew.Vs (H':=jI) (f:=br) (l:=eJ) (l0:=l) (cells:=eO++new) (elem:=el) (eD:=eD) (sh:=sh)
           (o:=.cells ((c.toList.take (c4*aj)).toArray++(qp.toArray++Builtin.zeroCells z.cells (grownCap w (c4+n) dY el -(c4+n)))) el) (L:=⟨w.heap.size,grownCap w (c4+n) dY el*aj,aj⟩) sL sM BV nR aD (by omega) (by omega) ch js vF rfl
           (LH (MR.mono (p3.tE _)) (b5.mono (p3.tE _)) (by rw[cg,Hz]) bY EG pk)
          refine⟨_,_,_,gK,Ee,En.trans Eo,?_⟩;exact .oS bZ.af 0 (c4+n) _ ⟨w.heap.size,grownCap w (c4+n) dY el*aj,aj⟩ (bH.jB _ _ _) pk (by simp)
        ·--a slice api room
         have gK:=Ok (P:=P) (w:=w) fN hq eV el eZ i z hu kg vu ak qi (some ⟨L.r,ga,none⟩) 0 0 n dD [] qp hlen
          (fun gD=>by simp[Builtin.firstCells,loadCells,loadCellsFrom])
          (fun gD=>by rw[rp];exact dr gD) (by omega) aZ aR
         have pk:=grownCap_ge w (0+n) 0 el;have adR:eO=[]:=qL.1 (by omega);subst adR
         obtain⟨Ee,Eo⟩:=p3.drew.Vs (H':=jI) (f:=br) (l:=eJ) (l0:=l) (cells:=[]++new) (elem:=el) (eD:=eD) (sh:=sh)
          (o:=.cells (([]:List Value).toArray++(qp.toArray++Builtin.zeroCells z.cells (grownCap w (0+n) 0 el -(0+n)))) el) (L:=⟨w.heap.size,grownCap w (0+n) 0 el*aj,aj⟩) sL sM BV nR aD (by omega) (by omega) ch js vF rfl
          (LH (bN.nil _) (b5.mono (p3.tE _)) (by rw[cg,Hz]) bY EG pk)
         refine⟨_,_,_,gK,Ee,En.trans Eo,?_⟩;exact .oS bZ.af 0 (0+n) _ ⟨w.heap.size,grownCap w (0+n) 0 el*aj,aj⟩ (bH.jB _ _ _) pk (by simp)
       |_=>simp at he
    ·rw[Kx Bt,dN] at he
     --sZ exact aoe
     have mr:∀a,base=some a->a.spot=none:=fun a q=>by
      subst q;cases q:a.spot with
      |none=>rfl
      |some k=>
       exfalso;cases aw:Nat.ble (c4+n) h3 with
       |true=>rw[aw] at he;simp[q] at he
       |false=>rw[aw] at he;simp[xJ,q] at he
     have L9:(base=none/\cZ=.slice none c4 h3)\/(∃id off L,base=some ⟨id,off,none⟩/\μ id=some L/\cZ=.slice (some ⟨L.r,off,none⟩) c4 h3):=by
      cases base with
      |none=>exact .inl ⟨rfl,al.rO⟩
      |some a=>
       obtain⟨id,off,L,ga,dY,rfl,bB,rfl,an,_,st⟩:=al.uz (.inl (mr a rfl));rcases st with⟨_,rfl,rfl⟩|⟨q,_⟩|⟨q,_⟩
       ·exact .inr ⟨id,ga,L,rfl,bB,rfl⟩
       ·exact absurd q Bt
       ·exact absurd q Bt
     cases mT:Nat.ble (c4+n) h3 with
     |true=>
      rw[mT,cc] at he;have mT:=hC mT;rcases L9 with⟨rfl,rfl⟩|⟨id,off,L,rfl,bB,rfl⟩
      ·simp only at he;cases jy:Nat.beq n 0 with
       |false=>rw[jy] at he;simp at he
       |true=>
        rw[jy,cc] at he;simp only[b6,da] at he;obtain⟨rfl,rfl⟩:=he;have jy:=eK jy;subst jy;refine⟨_,w,μ,?_,h,Step.refl _ _,al⟩;exact Jq fN hq eV elem eZ i hu kg vu ak none c4 h3 0 dD qp w hlen sz mT (fun a q=>by cases q) (fun _=>rfl)
      ·simp only at he;cases c0:pW H id (off+c4*aj) new with
       |none=>rw[c0] at he;simp at he
       |some H1=>
        rw[c0] at he;simp only[b6,da] at he;obtain⟨rfl,rfl⟩:=he;obtain⟨bb,bl,bF,bO⟩:=Hn h bB b5 c0;refine⟨.slice (some ⟨L.r,off,none⟩) (c4+n) h3,bb,μ,?_,bF,bO,?_⟩
        ·exact Jq fN hq eV elem eZ i hu kg vu ak (some ⟨L.r,off,none⟩) c4 h3 n dD qp bb hlen sz mT (fun a q=>by
          injection q with q;subst q
          rw[Addr.pQ,rp];exact bl) (fun q=>by cases q)
        ·have cP:h3<cR:=by
          obtain⟨_,_,_,_,_,_,_,_,_,_,st⟩:=al.uz (.inl rfl);rcases st with⟨q,_⟩|⟨q,_⟩|⟨q,_⟩
          ·exact q
          ·exact absurd q Bt
          ·exact absurd q Bt
         exact .m5 id off _ _ L bB cP
     |false=>
      rw[mT,dN,show xJ base=true from by rcases L9 with⟨rfl,_⟩|⟨_,_,_,rfl,_⟩<;>rfl,cc] at he;have mT:h3<c4+n:=by
       rcases jo h3 (c4+n) with q|q
       ·exact q
       ·rw[kK q] at mT;cases mT
      cases hold:jt H aj c4 (.slice base c4 h3) with
      |none=>rw[hold] at he;simp at he
      |some eO=>
       rw[hold] at he;simp only at he;obtain⟨UN,vU,vV⟩:=Hk h al (m:=c4) rfl (dH _) hold;cases lE:Nat.beq eO.length (c4*aj) with
       |false=>rw[lE] at he;simp at he
       |true=>
        rw[lE,cc] at he;have lE:=eK lE;unfold fresh at he;cases gj:H.nq (eO++new) elem false with
        |none=>rw[gj] at he;simp at he
        |some p=>
         obtain⟨af7,H1⟩:=p;rw[gj] at he;simp only[b6,da] at he;obtain⟨rfl,rfl⟩:=he;have pk:=grownCap_ge w (c4+n) h3 elem;have EG:(eO++new).length=(c4+n)*aj:=by rw[er,lE,ep,mC]
         obtain⟨bl,bF,rfl⟩:=h.drew.Ny (o:=.cells (UN.toArray++(qp.toArray++Builtin.zeroCells z.cells (grownCap w (c4+n) h3 elem -(c4+n)))) elem) (L:=⟨w.heap.size,grownCap w (c4+n) h3 elem*aj,aj⟩) gj rfl
          (fun f=>LH (vU.mono (h.tE _)) (b5.mono (h.tE _)) (Ox eI) bY EG pk)
         have MZ:∃b',cZ=.slice b' c4 h3:=by
          rcases L9 with⟨_,q⟩|⟨_,_,_,_,_,q⟩
          ·exact⟨_,q⟩
          ·exact⟨_,q⟩
         obtain⟨b',rfl⟩:=MZ
         have gK:=Ok (P:=P) (w:=w) fN hq eV elem eZ i z hu kg vu ak qi b' c4 h3 n dD UN qp hlen
          (fun gD=>by rw[rp];exact vV gD) (fun gD=>by rw[rp];exact dr gD) mT aZ aR
         exact⟨_,_,_,gK,bl,bF,.oS H.af 0 (c4+n) _ _ (bH.jB _ _ _) pk (by simp)⟩
   |_=>simp at he
  |_=>simp at he
end
end
end Go.Cre
namespace Go.Cre
noncomputable section
open Go.RowKit
section
variable {P:Program}{B:Nat->Prop}{w0 w:World}{μ:bH}{H H':ao}
theorem aaG(h:bR P B w0 μ H w){qC fN eV:TypeId}{d kO s cZ v:Value}(aS:bj μ d kO)(al:bj μ s cZ)(he:K9 P H qC d s=some (v,H')):
 ∃v' bb,(Builtin.copy_ #[qC,fN] eV #[kO,cZ]).run P w=.ok v' bb/\bR P B w0 μ H' bb/\Step μ μ H H'/\bj μ v v':=by
 unfold K9 at he;cases hu:P.underlying qC with
 |none=>rw[hu] at he;simp at he
 |some t=>
  rw[hu] at he;cases t with
  |slice elem=>
   cases d with
   |slice base tw amx=>
    cases ay:ql s with
    |none=>rw[ay] at he;simp at he
    |some c4=>
     rw[ay] at he;simp only at he;cases eI:eB P elem with
     |none=>rw[eI] at he;simp at he
     |some aj=>
      rw[eI] at he;simp only at he;generalize aM:(bif Nat.ble c4 tw then c4 else tw)=n at he;have H2:Nat.min c4 tw=n:=by
          rw[<-aM];cases ai:Nat.ble c4 tw with
          |true=>have:=hC ai;simp;exact k4 this
          |false=>
           have:¬c4<=tw:=fun q=>by rw[kK q] at ai;cases ai
           simp;exact Nat.min_eq_right (by omega)
      have adQ:n<=c4:=by rw[<-H2];exact Nat.min_le_left _ _
      cases aw:jt H aj n s with
      |none=>rw[aw] at he;simp at he
      |some cells=>
       rw[aw] at he;simp only at he;obtain⟨cells',bx,bT⟩:=Hk h al ay adQ aw;have hlen:=Uc (P:=P) al ay;have SQ:(Builtin.firstCells aj n cZ).run P w=.ok cells'.toArray w:=bT w.drawn;cases base with
       |none=>
        simp only[b6,da] at he;obtain⟨rfl,rfl⟩:=he;rw[aS.rO];refine⟨.int .i64 n,w,?_,h,Step.refl _ _,.atom _ rfl⟩;simp[Builtin.copy_,eP hu,hlen,H2,km eI,SQ,goInt]
       |some a=>
        have mr:a.spot=none:=by
         cases q:a.spot with
         |none=>rfl
         |some _=>simp[q] at he
        obtain⟨id,off,L,ga,dY,rfl,bB,rfl,an,_,_⟩:=aS.uz (.inl mr);simp only at he;cases cA:cells.all eT with
        |false=>rw[cA] at he;simp at he
        |true=>
         rw[cA] at he;simp only[lK,dN] at he;cases c0:pW H id off cells with
         |none=>rw[c0] at he;simp at he
         |some H1=>
          rw[c0] at he;simp only[b6,da] at he;obtain⟨rfl,rfl⟩:=he;obtain⟨bb,bl,bF,bO⟩:=Hn h bB bx c0;refine⟨.int .i64 n,bb,?_,bF,bO,.atom _ rfl⟩;have aep:(storeCells ⟨L.r,ga,none⟩ cells').run P w=.ok () bb:=by
            by_cases bt:0<tw
            ·rw[an bt];exact bl
            ·have jy:n=0:=by rw[<-H2];have:tw=0:=by omega
                             rw[this];exact Nat.min_zero _
             have:cells=[]:=by
              subst jy;cases s with
              |slice b l c=>cases b with
               |none=>simp[jt] at aw;exact aw
               |some b=>
                simp[jt] at aw;exact aw
              |string s=>simp[jt,takeN] at aw;exact aw
              |_=>simp[ql] at ay
             subst this;have:=bx.kA;subst this;simp only[storeCells] at bl ⊢;exact bl
          simp[Builtin.copy_,eP hu,hlen,H2,km eI,SQ,goInt,aep]
   |_=>simp at he
  |_=>simp at he
theorem aaE(h:bR P B w0 μ H w){t eV:TypeId}{x dD v:Value}(aS:bj μ x dD)(he:yT P H t x=some (v,H')):
 ∃v' bb,(Builtin.clear_ #[t] eV #[dD]).run P w=.ok v' bb/\bR P B w0 μ H' bb/\Step μ μ H H'/\bj μ v v':=by
 have M8:bj μ (.tuple #[]) (.tuple #[]):=.tuple _ _ rfl (fun i v v' q=>by simp at q);unfold yT at he;split at he
 ·rename_i d l c hu;simp only[b6,da] at he;obtain⟨rfl,rfl⟩:=he;rw[aS.rO];exact⟨.tuple #[],w,by simp[Builtin.clear_,eP hu],h,Step.refl _ _,M8⟩
 ·rename_i d a c hu;simp only[b6,da] at he;obtain⟨rfl,rfl⟩:=he;obtain⟨bA,dY,rfl⟩:=aS.x4;exact⟨.tuple #[],w,by simp[Builtin.clear_,eP hu],h,Step.refl _ _,M8⟩
 ·rename_i elem a n c hu;split at he
  ·rename_i z mr bC;cases dq:plain z with
   |false=>rw[dq] at he;cases he
   |true=>
    rw[dq,cc] at he;split at he
    ·rename_i H1 c0;simp only[b6,da] at he;obtain⟨rfl,rfl⟩:=he;obtain⟨id,off,L,ga,dY,rfl,bB,rfl,an,_,_⟩:=aS.uz (.inl mr);have an:=an (Nat.succ_pos n);subst an;have rr:bN μ z.cells.toList z.cells.toList:=(oO dq).cells;have vo:bN μ (gp z.cells.toList (n+1)) (gp z.cells.toList (n+1)):=bN.Cm fun v ap=>by
      exact Gg (p:=fun v=>bj μ v v) ap (fun u hu=>by
       obtain⟨i,ak⟩:=lM.1 hu;exact rr.2 i u u ak ak)
     obtain⟨bb,bl,bF,bO⟩:=Hn h bB vo c0;refine⟨.tuple #[],bb,?_,bF,bO,M8⟩;have lX:=Gh z.cells.toList (n+1);have e:(Builtin.zeroCells z.cells (n+1)).toList=gp z.cells.toList (n+1):=by
      have:Builtin.zeroCells z.cells (n+1)=(gp z.cells.toList (n+1)).toArray:=by
       rw[<-lX];simp[Builtin.zeroCells]
      rw[this]
     simp[Builtin.clear_,eP hu,uE bC,e,bl]
    ·cases he
  ·cases he
 ·cases he
theorem ahM:∀{kb:List Field} {dx:List (Nat×Nat)},places P kb=some dx->dx.length=kb.length/\∀w,(kb.mapM (fun f=>Prod.mk f.offset <$> sizeOf f.type):Sem (List (Nat×Nat))).run P w=.ok dx w:=by
 intro kb;induction kb with
 |nil=>intro dx h;simp[places] at h;subst h;exact⟨rfl,fun w=>by simp⟩
 |cons f kb aG=>
  intro dx h;simp only[places] at h;cases al:eB P f.type with
  |none=>rw[al] at h;simp at h
  |some n=>
   rw[al] at h;cases au:places P kb with
   |none=>rw[au] at h;simp at h
   |some r=>
    rw[au] at h;simp only[b6] at h;subst h;obtain⟨a,b⟩:=aG au;refine⟨by simp[a],fun w=>?_⟩;simp[PL,km al,b]
theorem abn(vs:List Value):∀(c:Array Value) (off k:Nat),(vs.zipIdx k).foldl (fun cs (x:Value×Nat)=>cs.setIfInBounds (off+x.2) x.1) c=pB c (off+k) vs:=by
 induction vs with
 |nil=>intro c off k;rfl
 |cons v vs aG=>intro c off k;simp only[List.zipIdx_cons,J7,pB];rw[aG];congr 1
theorem ajg{off:Nat}{cells vs KQ:List Value}(h:gE off cells vs=some KQ):pB cells.toArray off vs=KQ.toArray:=by
 obtain⟨aD,a5,cC⟩:=OA h;apply CF
 intro i;rw[Jv _ _ _ _ (by simpa using a5)];have:=cC i;simp only[XJ];rw[this]
theorem aji{off:Nat}{cells cells' vs ko r:List Value}(av:bN μ cells cells')(ap:bN μ vs ko)(h:gE off cells vs=some r):∃b7,gE off cells' ko=some b7/\bN μ r b7:=by
 induction off generalizing cells cells' r with
 |zero=>
  induction vs generalizing cells cells' ko r with
  |nil=>
   have:=ap.kA;subst this;simp[gE] at h;subst h;exact⟨cells',by simp[gE],av⟩
  |cons v vs aG=>
   obtain⟨v',pE,rfl,aa,ab⟩:=ap.iN;cases cells with
   |nil=>simp[gE] at h
   |cons c cs=>
    obtain⟨b1,cK,rfl,b4,bX⟩:=av.iN;simp only[gE] at h ⊢;cases al:gE 0 cs vs with
    |none=>rw[al] at h;simp at h
    |some v7=>
     rw[al] at h;simp only[b6] at h;subst h;obtain⟨b7,aD,a5⟩:=aG ab bX al;rw[aD];exact⟨v'::b7,rfl,bN.cons aa a5⟩
 |succ n aG=>
  cases cells with
  |nil=>simp[gE] at h
  |cons c cs=>
   obtain⟨b1,cK,rfl,b4,bX⟩:=av.iN;simp only[gE] at h ⊢;cases al:gE n cs vs with
   |none=>rw[al] at h;simp at h
   |some v7=>
    rw[al] at h;simp only[b6] at h;subst h;obtain⟨b7,aD,a5⟩:=aG bX al;rw[aD];exact⟨b1::b7,rfl,bN.cons b4 a5⟩
def uQ(μ:bH)(l l':List (Nat×Value)):Prop:=l.length=l'.length/\∀(i:Nat) p hK,l[i]?=some p->l'[i]?=some hK->p.1=hK.1/\bj μ p.2 hK.2
theorem uQ.iN{p:Nat×Value}{l m:List (Nat×Value)}(h:uQ μ (p::l) m):∃v' l',m=(p.1,v')::l'/\bj μ p.2 v'/\uQ μ l l':=by
 cases m with
 |nil=>have:=h.1;simp at this
 |cons q l'=>
  obtain⟨a,b⟩:=h.2 0 p q rfl rfl;refine⟨q.2,l',by rw[a],b,by have:=h.1;simpa using this,fun i x y I ah=>h.2 (i+1) x y (by simpa using I) (by simpa using ah)⟩
theorem Hq{place:Nat->Option (Nat×Nat)}:∀{parts l3:List (Nat×Value)} {cells cells' r:List Value},uQ μ parts l3->bN μ cells cells'->mQ place cells parts=some r->
 ∃b7,Instr.fill place cells'.toArray l3=some b7.toArray/\bN μ r b7:=by
 intro parts;induction parts with
 |nil=>
  intro l3 cells cells' r au av he;have:l3=[]:=qL.1 (by have:=au.1;simpa using this.symm);subst this;simp[mQ] at he;subst he;exact⟨cells',rfl,av⟩
 |cons p parts aG=>
  intro l3 cells cells' r au av he;obtain⟨v',l',rfl,aa,ab⟩:=au.iN;obtain⟨i,v⟩:=p;simp only[mQ] at he;cases dq:place i with
  |none=>rw[dq] at he;simp at he
  |some q=>
   obtain⟨off,size⟩:=q;rw[dq] at he;simp only at he;cases ai:Nat.beq v.cells.toList.length size with
   |false=>rw[ai] at he;simp at he
   |true=>
    rw[ai,cc] at he;have ai:=eK ai;cases al:gE off cells v.cells.toList with
    |none=>rw[al] at he;simp at he
    |some KQ=>
     rw[al] at he;simp only at he;have ap:=aa.cells;obtain⟨YO,s1,s2⟩:=aji av ap al;obtain⟨b7,a,b⟩:=aG ab s2 he;refine⟨b7,?_,b⟩;obtain⟨aD,a5,cC⟩:=OA s1;have vG:=ap.1;have bC:v'.cells.size=size:=by simp at vG ai;omega
     have lX:v'.cells.toList.length=v'.cells.size:=by simp
     have Mm:(v'.cells.zipIdx.foldl (fun cs (x:Value×Nat)=>cs.setIfInBounds (off+x.2) x.1) cells'.toArray)=YO.toArray:=by
      rw[<-Array.foldl_toList,Array.toList_zipIdx,abn,s9];exact ajg s1
     have abU:¬(v'.cells.size≠size):=by omega
     have abV:¬(off+v'.cells.size>cells'.toArray.size):=by
      simp only[PV];rw[<-lX];omega
     simp only[Instr.fill,dq];rw[aq (by simp only[wo,He];exact not_or.2 ⟨abU,abV⟩),Mm];exact a
theorem aaC{t:TypeId}{parts l3:List (Nat×Value)}{v:Value}(au:uQ μ parts l3)(he:DL P t parts=some v)(w:World):
 ∃v',(Instr.build t l3.toArray).run P w=.ok v' w/\bj μ v v':=by
 unfold DL at he;cases bC:fO P t with
 |none=>rw[bC] at he;simp at he
 |some z=>
  rw[bC] at he;cases hu:P.underlying t with
  |none=>rw[hu] at he;simp at he
  |some d=>
   rw[hu] at he;have rr:plain z=true->bN μ z.cells.toList z.cells.toList:=fun q=>(oO q).cells;cases d with
   |struct fields=>
    simp only at he;cases dq:plain z with
    |false=>rw[dq] at he;simp at he
    |true=>
     rw[dq,cc] at he;cases zw:places P fields.toList with
     |none=>rw[zw] at he;simp at he
     |some dx=>
      rw[zw] at he;simp only at he;cases aw:mQ (nth dx) z.cells.toList parts with
      |none=>rw[aw] at he;simp at he
      |some cells=>
       rw[aw] at he;simp only[b6] at he;subst he;obtain⟨b7,a,b⟩:=Hq au (rr dq) aw;obtain⟨_,hm⟩:=ahM zw;refine⟨.agg b7.toArray,?_,bj.GQ b⟩;have aM:(fun i=>dx[i]?)=nth dx:=by funext i;rw[kk]
       have gK:(Array.mapM (fun f=>Prod.mk f.offset <$> sizeOf f.type) fields:Sem (Array (Nat×Nat))).run P w=.ok dx.toArray w:=by
        rw[Xp];simp[hm]
       have bA:Instr.fill (fun x=>dx[x]?) z.cells l3=some b7.toArray:=by rw[aM];simpa using a
       simp[Instr.build,uE bC,eP hu,gK,bA]
   |array len elem=>
    simp only at he;cases dq:plain z with
    |false=>rw[dq] at he;simp at he
    |true=>
     rw[dq,cc] at he;cases al:eB P elem with
     |none=>rw[al] at he;simp at he
     |some aj=>
      rw[al] at he;simp only at he;cases aw:mQ (fun i=>some (i*aj,aj)) z.cells.toList parts with
      |none=>rw[aw] at he;simp at he
      |some cells=>
       rw[aw] at he;simp only[b6] at he;subst he;obtain⟨b7,a,b⟩:=Hq au (rr dq) aw;refine⟨.agg b7.toArray,?_,bj.GQ b⟩;have bA:Instr.fill (fun i=>some (i*aj,aj)) z.cells l3=some b7.toArray:=by simpa using a
       simp[Instr.build,uE bC,eP hu,km al,bA]
   |_=>simp at he
theorem aaB(h:bR P B w0 μ H w){t:TypeId}{len:Nat}{parts l3:List (Nat×Value)}{v:Value}(au:uQ μ parts l3)(he:DM P H t len parts=some (v,H')):
 ∃v' bb bk,(Instr.buildSlice t len l3.toArray).run P w=.ok v' bb/\bR P B w0 bk H' bb/\Step μ bk H H'/\bj bk v v':=by
 unfold DM at he;cases hu:P.underlying t with
 |none=>rw[hu] at he;simp at he
 |some d=>
  rw[hu] at he;cases d with
  |slice elem=>
   simp only at he;cases al:eB P elem with
   |none=>rw[al] at he;simp at he
   |some aj=>
    rw[al] at he;cases bC:fO P elem with
    |none=>rw[bC] at he;simp at he
    |some z=>
     rw[bC] at he;simp only at he;cases av:(Nat.ble len 100000&&Nat.ble (len*aj) 100000&&plain z&&Nat.beq z.cells.toList.length aj) with
     |false=>rw[av] at he;simp at he
     |true=>
      rw[av,cc] at he;simp only[fR] at av;obtain⟨⟨⟨mw,aZ⟩,aR⟩,bY⟩:=av;have mw:=hC mw;have aZ:=hC aZ;have bY:=eK bY;cases aw:mQ (fun i=>some (i*aj,aj)) (gp z.cells.toList len) parts with
      |none=>rw[aw] at he;simp at he
      |some cells=>
       rw[aw] at he;simp only at he;cases an:cells.all eT with
       |false=>rw[an] at he;simp at he
       |true=>
        rw[an,cc] at he;cases aM:sO H elem cells with
        |none=>rw[aM] at he;simp at he
        |some p=>
         obtain⟨id,H1⟩:=p;rw[aM] at he;simp only[b6,da] at he;obtain⟨rfl,rfl⟩:=he;have rr:bN μ z.cells.toList z.cells.toList:=(oO aR).cells;have vo:bN μ (gp z.cells.toList len) (gp z.cells.toList len):=bN.Cm fun v ap=>
          Gg (p:=fun v=>bj μ v v) ap (fun u hu=>by
           obtain⟨i,ak⟩:=lM.1 hu;exact rr.2 i u u ak ak)
         obtain⟨b7,a,b⟩:=Hq au vo aw;obtain⟨bk,L,ct,eM,l1,sL,_⟩:=NG h b aM;refine⟨.slice (some ⟨w.heap.size,0,none⟩) len len,_,bk,?_,ct,eM,?_⟩
         ·have lX:=Gh z.cells.toList len;have aeQ:z.cells.size=aj:=by simpa using bY
          have Ma:¬(16777216<len*aj):=by omega
          rw[bY] at lX;simp only[Xq] at lX;by_cases bt:len*aj=0
          ·have sx:gp z.cells.toList len=[]:=qL.1 (by rw[Ph,bY];exact bt);rw[sx] at a;have bA:Instr.fill (fun i=>some (i*aj,aj)) (Array.map (fun _=>(default:Value)) (Array.range 0)) l3=some b7.toArray:=by
            have kP:Array.map (fun _:Nat=>(default:Value)) (Array.range 0)=#[]:=by simp
            rw[kP];exact a
           simp[Instr.buildSlice,eP hu,km al,bt,bA,newRow,newObj,Sem.run]
          ·have bA:Instr.fill (fun i=>some (i*aj,aj)) ((Array.range (len*aj)).map fun i=>z.cells[i % z.cells.size]!) l3=some b7.toArray:=by rw[lX];exact a
           simp[Instr.buildSlice,eP hu,km al,Ma,bt,uE bC,bA,newRow,newObj,Sem.run]
         ·rw[<-sL];refine .m5 id 0 len len L l1 ?_;have:(100000:Nat)<cR:=by decide
          omega
  |_=>simp at he
end
end
end Go.Cre
namespace Go.Cre
noncomputable section
open Go.RowKit
section
variable {P:Program}{B:Nat->Prop}{w0 w:World}{μ:bH}{H H':ao}
theorem RJ{α:Type}{s:Sem α}{a:α}(h:fI P s=some a)(w:World):s.run P w=.ok a w:=by
 induction s generalizing w with
 |pure b=>simp[fI] at h;subst h;rfl
 |program k aG=>exact aG P (by simpa[fI] using h) w
 |mark m k aG=>exact aG (by simpa[fI] using h) w
 |_=>simp[fI] at h
theorem bR.Xb(h:bR P B w0 μ H w){id:Nat}{L:Loc}{b b':fa}{o':Obj}(bB:μ id=some L)(ar:H.bq<=id)(hm:H.mem.get id=some b)(kS:∀c e o f z s,b≠.row c e o f z s)(aS:b≠.dead)
 (hu:H.upd id b'=some H')(kT:∀c e o f z s,b'≠.row c e o f z s)(ai:jm P μ L b' o'):
 bR P B w0 μ H' {w with heap:=w.heap.setIfInBounds L.r o'}/\Step μ μ H H':=by
 obtain⟨iC,iU,iw,wi,rP⟩:=ao.pF hu;have tY:H.mem.get id≠some .dead:=by rw[hm];intro q;injection q with q;exact aS q
 refine h.write bB ar tY iC iw wi (by rw[rP];simp) (fun x I=>.inl (by rw[rP,aq I])) ?_ (fun f l ay=>.inl (by rw[iU];exact ay)) (fun f l ay=>.inl (by rw[<-iU];exact ay))
  (fun c e f z s q=>absurd q (kT _ _ _ _ _ _)) (fun q=>by
   rw[hm] at q;cases b with
   |row c e o f z s=>exact absurd rfl (kS _ _ _ _ _ _)
   |_=>simp[jU] at q) ai
 intro x bw I nN ax;rcases h.sep id x L bw (Ne.symm I) bB nN ax.symm with d|d|⟨dj,l,⟨bx,aD,kG,Jr,q⟩,_⟩
 ·exact absurd d tY
 ·rw[rP,aq I];exact d
 ·rw[hm] at q;injection q with q;exact absurd q (kS _ _ _ _ _ _)
end
end
end Go.Cre

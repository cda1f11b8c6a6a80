/- A part of the proof of TableTurns. -/
import Derived.Test.YtlgjlbpafcifoaaGreatDoorCad
import Derived.Orders
import Derived.Laws.BytesString
import Derived.Laws.BytesArg
import Derived.Lib.UnsafeStr
set_option linter.unusedVariables false
set_option linter.unusedSimpArgs false
namespace Go.Cre
noncomputable section
open Go.RowKit
section
variable {P:Program}{B:Nat->Prop}{w0 w:World}{μ:bL}{H H':an}
theorem arL(z:Array Value)(n:Nat):(Builtin.zeroCells z n).size=n*z.size:=by simp[Builtin.zeroCells]
theorem NX{a b bO b':List Value}{elem:TypeId}{z:Value}{sz GS cap f ef r:Nat}{sh:Bool}{bf:bL}(aF:bT bf a bO)(ai:bT bf b b')(dF:P.cellsOf elem=sz)(aG:z.cells.toList.length=sz)(ap:(a++b).length=GS*sz)(lM:GS<=cap):
 jx P bf ⟨r,cap*sz,sz⟩ (.row (a++b) elem true f ef sh) (.cells (bO.toArray++(b'.toArray++Builtin.zeroCells z.cells (cap -GS))) elem):=by
 have aD:=aF.append ai;have ri:z.cells.size=sz:=by simpa using aG
 have aiq:(bO.toArray++(b'.toArray++Builtin.zeroCells z.cells (cap -GS)))=(bO++b').toArray++Builtin.zeroCells z.cells (cap -GS):=by
  apply qz;simp
 rw[aiq];refine⟨rfl,?_,dF,?_,(fun h=>by cases h),fun i v v' a b=>?_,⟨fun off _ ab ad=>by simp at ad,fun _=>.inl rfl⟩⟩
 ·rw[Array.size_append,arL,ri];simp only[S3];rw[<-aD.1,ap,<-cR];congr 1;omega
 ·show(a++b).length<=cap*sz;rw[ap];exact eK _ lM
 ·refine aD.2 i v v' a ?_;have ak:i<(bO++b').length:=by
   have:=(gS.1 a).1;have:=aD.1;omega
  rw[aa7 (by simpa using ak)] at b;simpa using b
theorem TM{a b:Nat}(h:Nat.blt a b=false):b<=a:=by
 rcases hL a b with q|q
 ·have:=lH q;unfold Nat.blt at h;simp_all
 ·exact q
theorem afC(h:bX P B w0 μ H w){ts iD dx:TypeId}{eM:TypeDesc}{s cQ x dv v:Value}(hs:bg μ s cQ)(U:bg μ x dv)(lP:P.underlying iD=some eM)(r0:∀k,eM≠.int k)(he:pX P H ts s x=some (v,H')):
 ∃v' a5 bf,(Builtin.append_ #[ts,iD] dx #[cQ,dv]).run P w=.ok v' a5/\bX P B w0 bf H' a5/\Step μ bf H H'/\bg bf v v':=by
 unfold pX at he;cases hu:P.underlying ts with
 |none=>rw[hu] at he;simp at he
 |some d=>
  rw[hu] at he;cases d with
  |slice elem=>
   cases s with
   |slice base cV h4=>
    simp only at he;cases dF:ey P elem with
    |none=>rw[dF] at he;simp at he
    |some sz=>
    rw[dF] at he;cases hF:uB P elem with
    |none=>rw[hF] at he;simp at he
    |some iL=>
    rw[hF] at he;cases aG:gX P elem with
    |none=>rw[aG] at he;simp at he
    |some z=>
    rw[aG] at he;cases az:rk x with
    |none=>rw[az] at he;simp at he
    |some n=>
    rw[az] at he;simp only at he;cases yn:(Nat.ble (cV+n) 1000000&&Nat.ble iL 1000000&&Nat.beq z.cells.toList.length sz) with
    |false=>rw[yn] at he;simp at he
    |true=>
    rw[yn] at he;simp only[oc,da] at he;simp only[gg] at yn;obtain⟨⟨aK,aH⟩,bJ⟩:=yn;have aK:=hv aK;have aH:=hv aH;have bJ:=eb bJ;cases aA:jn H sz n x with
    |none=>rw[aA] at he;simp at he
    |some new=>
    rw[aA] at he;simp only at he;cases gQ:(new.all eV&&Nat.beq new.length (n*sz)) with
    |false=>rw[gQ] at he;simp at he
    |true=>
    rw[gQ] at he;simp only[oc,da] at he;simp only[gg] at gQ;have dU:=eb gQ.2;obtain⟨rm,d',ej⟩:=I5 h U az (bF _) aA;have hlen:=Xj (P:=P) U az;obtain⟨i,ak,rfl⟩:=ML hF
    have ri:i.zero=some z:=by simpa[gX,ak] using aG
    have r8:i.size=sz:=by simpa[ey,ak] using dF
    have tt:(Builtin.firstCells i.size n dv).run P w=.ok rm.toArray w:=by rw[r8];exact ej w.drawn
    have eg:(cG:Nat)=1208925819614629174706176:=rfl;by_cases CN:h4=cG
    ·subst CN;rw[hd,b4] at he;cases base with
     |none=>simp at he
     |some a=>
      obtain⟨id,off,L,fI,dT,rfl,a4,rfl,ah,_,to⟩:=hs.vq (.inr (.inr (by decide)));simp only at he;cases hm:H.mem.get id with
      |none=>rw[hm] at he;simp at he
      |some b=>
       rw[hm] at he;cases b with
       |row cells el opn bw ef sh=>
        cases opn with
        |false=>simp at he
        |true=>
        simp only at he;cases tm:(Nat.beq el elem&&!Nat.blt id H.bz&&Nat.ble ef (off+cV*sz)) with
        |false=>rw[tm] at he;simp at he
        |true=>
        rw[tm] at he;simp only[oc,da] at he;simp only[gg,sG] at tm;obtain⟨⟨cX,cW⟩,eR⟩:=tm;have cX:=eb cX;subst cX;have cW:=TM cW;have eR:=hv eR;obtain⟨c,f,bY,bZ,cz,fu,fM,gN,gp⟩:=h.row a4 hm;have Jo:L.sz=sz:=by rw[<-cz];exact Rz dF
        cases hj:Nat.beq n 0 with
        |true=>
         rw[hj,b4] at he;simp only[cl,dm] at he;obtain⟨rfl,rfl⟩:=he;have hj:=eb hj;subst hj;have Pc:rm=[]:=by
          have:=d'.1;rw[dU] at this;exact zk.1 (by omega)
         subst Pc;refine⟨_,w,μ,?_,h,Step.refl _ _,hs⟩;have hle:cV+0<=dT:=by
          rcases to with⟨bp,_⟩|⟨_,bN,_⟩|⟨_,bN,cN⟩<;>omega
         exact Lc ts iD dx el eM i hu lP r0 ak (some ⟨L.r,fI,none⟩) cV dT 0 dv [] w hlen tt hle (fun a _=>rfl) (fun q=>by cases q)
        |false=>
        rw[hj,da] at he;have atx:0<n:=by
         rcases il n with q|q
         ·subst q;simp at hj
         ·exact q
        cases FP:Nat.beq off 0 with
        |false=>rw[FP] at he;simp at he
        |true=>
        rw[FP] at he;simp only[oc,da] at he;have FP:=eb FP;subst FP;cases hold:takeN (cV*sz) cells with
        |none=>rw[hold] at he;simp at he
        |some dH=>
        rw[hold] at he;simp only at he;obtain⟨Dm,Dn,aml⟩:=DK hold;cases jI:H.bw.get bw with
        |none=>rw[jI] at he;simp at he
        |some l=>
        rw[jI] at he;simp only at he;cases Cz:x7 H id l with
        |none=>rw[Cz] at he;simp at he
        |some p=>
        obtain⟨dL,H1⟩:=p;rw[Cz] at he;simp only at he;obtain⟨aU,aQ,bj,ct,fo,jN,oD,rj,P6,pre,atQ,akx⟩:=aeo Cz;have O6:∀x,H1.mem.get x=H.mem.get x\/(H1.mem.get x=some .dead/\(j1 (H.mem.get x)=true\/H.mem.get x=some .dead)):=fun x=>by
         rcases P6 x with q|q
         ·exact .inl q
         ·exact .inr ⟨q.1,(h.kR bw l x jI q.2).2⟩
        obtain⟨Fh,wu⟩:=h.kill (H':=H1) aU bj ct O6 (fun f l ap=>⟨l,by rw[aQ];exact ap,ih _,fun x a b=>absurd a b⟩) (fun f l ap=>⟨l,by rw[<-aQ];exact ap,ih _⟩)
        --sA dH members ap6 stay TE no Qi auM LA is kept
        have aiR:∀y∈dL,∀c e f z s,H1.mem.get y=some (.row c e true f z s)->c.length<=cells.length:=fun y au c e f z s q=>by
         have F1:=Fh.uL bw l (by rw[aQ];exact jI);have n1:=F1.sublist fo;rw[akx] at n1 au;rcases fU.1 au with rfl|au
         ·rw[oD,hm] at q;injection q with q;injection q with q;subst q;exact bF _
         ·exact(List.pairwise_cons.1 n1).1 y au _ _ _ _ _ _ _ _ _ _ (by rw[oD];exact hm) q
        --sA second cut
        cases bI:ER H1 dL (Nat.beq cells.length (cV*sz)) with
        |none=>rw[bI] at he;simp at he
        |some p=>
        obtain⟨du,bK⟩:=p;rw[bI] at he;simp only at he;unfold ER at bI
        have tg:bX P B w0 μ bK w/\Step μ μ H bK/\bK.ay=H.ay/\bK.cn=H.cn/\bK.bz=H.bz/\bK.bw.get bw=some l/\du.Sublist l/\(∀x,x∈l->x∉du->bK.mem.get x=some .dead)/\
         (∀y∈du,∀c e f z s,bK.mem.get y=some (.row c e true f z s)->c.length<=cV*sz)/\(∀x,bK.mem.get x=H.mem.get x\/bK.mem.get x=some .dead):=by
         cases ai:Nat.beq cells.length (cV*sz) with
         |true=>
          rw[ai,b4] at bI;simp only[cl,dm] at bI;obtain⟨rfl,rfl⟩:=bI;have ai:=eb ai;exact⟨Fh,wu,aU,bj,ct,by rw[aQ];exact jI,fo,rj,fun y au c e f z s q=>by have:=aiR y au c e f z s q;omega,fun x=>(O6 x).imp (fun q=>q) And.left⟩
         |false=>
          rw[ai,da] at bI;cases hk:se H1 H1.ay dL with
          |none=>rw[hk] at bI;simp at bI
          |some H5=>
           rw[hk] at bI;simp only[cl,dm] at bI;obtain⟨rfl,rfl⟩:=bI;obtain⟨a7,bc,cu,c9,cI,ee⟩:=Kh hk;have tr:∀x,x∈dL->H5.mem.get x=some .dead:=fun x U=>cI x U (fun e=>by
            have:=(Fh.kR bw l x (by rw[aQ];exact jI) (fo.mem U)).1;omega)
           have O7:∀x,H5.mem.get x=H1.mem.get x\/(H5.mem.get x=some .dead/\(j1 (H1.mem.get x)=true\/H1.mem.get x=some .dead)):=fun x=>by
            by_cases U:x∈dL
            ·exact .inr ⟨tr x U,(Fh.kR bw l x (by rw[aQ];exact jI) (fo.mem U)).2⟩
            ·exact .inl (ee x (.inl U))
           obtain⟨tg,nc⟩:=Fh.kill (H':=H5) a7 cu c9 O7 (fun f l ap=>⟨l,by rw[bc];exact ap,ih _,fun x a b=>absurd a b⟩) (fun f l ap=>⟨l,by rw[<-bc];exact ap,ih _⟩);refine⟨tg,wu.trans nc,by omega,by omega,by omega,by rw[bc,aQ];exact jI,kF _,fun x U _=>?_,fun y au=>by simp at au,fun x=>?_⟩
           ·by_cases pk:x∈dL
            ·exact tr x pk
            ·have:=rj x U pk;rcases O7 x with q|q
             ·rw[q];exact this
             ·exact q.1
           ·rcases O7 x with q|q
            ·rw[q];exact(O6 x).imp (fun q=>q) And.left
            ·exact .inr q.1
        obtain⟨tg,nc,cL,eA,lU,sj,vc,GF,Qn,Qo⟩:=tg;cases Px:bK.rr bw (bK.ay::du) with
        |none=>rw[Px] at he;simp at he
        |some eX=>
        rw[Px] at he;simp only at he;obtain⟨s1,s2,fQ,k6,qq⟩:=an.DI Px;cases O':eX.new (.row (dH++new) el true bw ef sh) with
        |none=>rw[O'] at he;simp at he
        |some p=>
        obtain⟨al4,jS⟩:=p;rw[O'] at he;simp only[cl,dm] at he;obtain⟨rfl,rfl⟩:=he;obtain⟨rfl,t1,t2,t3,t4,t5⟩:=an.oG O';have aw:jS.ay=bK.ay+1:=by omega
        have cr:∀m,jS.mem.get m=if m=bK.ay then some (.row (dH++new) el true bw ef sh) else bK.mem.get m:=fun m=>by rw[t5,s1,s2]
        have hB:∀m,jS.bw.get m=if m=bw then some (bK.ay::du) else bK.bw.get m:=fun m=>by rw[t2,qq]
        have oy:bw<bK.cn:=by have:=h.qS _ _ _ _ _ _ hm;omega
        have FL:(dH++new).length=(cV+n)*sz:=by rw[eY,Dn,dU,cR]
        have wS:∀y∈du,∀c e f z s,bK.mem.get y=some (.row c e true f z s)->c.length<=(dH++new).length:=fun y au c e f z s q=>by
         have:=Qn y au c e f z s q;rw[eY,Dn];omega
        --LA is kept,auG
        have Pg:bT μ dH (c.toList.take (cV*sz)):=by
         have:=gN.take (cV*sz);rw[<-Dm,sP,fV aml] at this;exact this
        rw[s1];rcases to with⟨bp,_⟩|⟨_,bN,rfl,cN⟩|⟨_,rfl,rfl⟩
        ·omega
        ·--a slice with room of atO own,or none
         by_cases ng:cV+n<=dT
         ·--in place
          rw[Jo] at cN;have Ap:(cV+n)*sz<=L.N:=by
           have:=eK sz ng;omega
          have dn:=Zx (P:=P) L.r (cV*sz) el f rm 0 c w bY (by rw[<-d'.1,dU,bZ];rw[cR] at Ap;omega) (fun j aY=>by
           rw[<-d'.1,dU] at aY;exact UO gp (by rw[cR] at Ap;omega) (by omega)) (acz d' gQ.1)
          simp only[ik] at dn
          obtain⟨Fi,wv⟩:=tg.anJ (H':=jS) (f:=bw) (id:=id) (l:=du) (l0:=l) (cells:=dH++new) (elem:=el) (ef:=ef) (sh:=sh) (o:=.cells c el f) (o':=.cells (qu c (cV*sz) rm) el f) (L:=L) sj vc GF oy a4 (by omega) (h.new id L a4 (by omega) (by rw[hm];intro q;cases q)) aw (by omega) (by omega) cr hB wS
           (fun y bR au aq=>by
            by_cases q4:bK.mem.get y=some .dead
            ·exact .inl q4
            ·right
             have wV:y∈l/\w1 H y bw:=by
              by_cases u5:y=id
              ·subst u5;exact⟨fo.mem jN,⟨_,_,_,_,hm⟩⟩
              ·rcases h.sep id y L bR (Ne.symm u5) a4 au aq.symm with d|d|⟨f',l',⟨bp,wa,dI,Ld,q⟩,dj,dc,_,als⟩
               ·rw[hm] at d;cases d
               ·exact absurd ((Qo y).elim (fun q=>q.trans d) (fun q=>q)) q4
               ·rw[hm] at q;injection q with q;injection q with _ _ _ q;subst q
                rw[jI] at dc;injection dc with dc;subst dc
                exact⟨als,dj⟩
             have WE:y∈du:=iF fun gr=>q4 (GF y wV.1 gr);obtain⟨b,o,cP,gW,nq⟩:=tg.fS y bR au;have mG:bK.mem.get y=H.mem.get y:=(Qo y).resolve_right q4;obtain⟨aeu,nR,arP,apT,K6⟩:=wV.2;have aus:=cP;rw[mG,K6] at cP;injection cP with cP;subst cP
             have aiV:=Qn y WE _ _ _ _ _ (mG.trans K6);refine⟨⟨aeu,nR,arP,apT,mG.trans K6⟩,WE,_,mG.trans K6,?_⟩;rw[aq,bY] at gW;injection gW with gW;subst gW
             obtain⟨dI,dB,ub,HR,LH,HS,HT⟩:=nq;refine⟨dI,by rw[RB];exact dB,ub,HR,fun q=>(by cases q),fun j v v' a b=>?_,HT⟩;rw[Lh _ _ _ _ (by rw[<-d'.1,dU,bZ];rw[cR] at Ap;omega)] at b;have aY:=(gS.1 a).1;rw[aZ (by omega)] at b;exact HS j v v' a b)
           (by
            refine⟨rfl,by rw[RB];exact bZ,cz,by rw[FL];exact Ap,fun q=>(by cases q),fun j v v' a b=>?_,gp⟩;rw[Lh _ _ _ _ (by rw[<-d'.1,dU,bZ];rw[cR] at Ap;omega)] at b;rw[SN] at a;rw[Dn] at a;split at a
            ·rename_i aY;rw[aZ (by omega)] at b;refine Pg.2 j v v' a ?_;rw[iH,a2 aY];simpa using b
            ·rename_i aY;have VO:=(gS.1 a).1;rw[a2 (by rw[<-d'.1];omega)] at b;exact d'.2 _ v v' a b)
          refine⟨.slice (some ⟨L.r,0,none⟩) (cV+n) dT,_,_,?_,Fi,nc.trans wv,?_⟩
          ·exact Lc ts iD dx el eM i hu lP r0 ak (some ⟨L.r,0,none⟩) cV dT n dv rm _ hlen tt ng (fun a q=>by
            injection q with q;subst q
            rw[Addr.qI,r8,kH];exact dn) (fun q=>by cases q)
          ·exact .pE bK.ay 0 (cV+n) dT L (bL.jP _ _ _) ng (by rw[Jo];exact cN)
         ·--it asM
          have gG:=Rp (P:=P) (w:=w) ts iD dx el eM i z hu lP r0 ak ri (some ⟨L.r,0,none⟩) cV dT n dv (c.toList.take (cV*sz)) rm hlen
           (fun fT=>by
            rw[r8];refine run_firstCells_some (P:=P) {w with drawn:=fT} sz cV ⟨L.r,0,none⟩ cV dT _ (by rw[<-Pg.1,Dn]) (fun j v aY=>?_);rw[Addr.qI,kH];have:=cell_of_row (w:={w with drawn:=fT}) bY j;rw[this];rw[iH] at aY;split at aY
            ·simpa using aY
            ·cases aY)
           (fun fT=>by rw[r8];exact ej fT) (by omega) aK aH
          have jq:=grownCap_ge w (cV+n) dT el
          obtain⟨Fi,wv⟩:=tg.drew.YQ (H':=jS) (f:=bw) (l:=du) (l0:=l) (cells:=dH++new) (elem:=el) (ef:=ef) (sh:=sh)
           (o:=.cells ((c.toList.take (cV*sz)).toArray++(rm.toArray++Builtin.zeroCells z.cells (grownCap w (cV+n) dT el -(cV+n)))) el) (L:=⟨w.heap.size,grownCap w (cV+n) dT el*sz,sz⟩) sj vc GF oy aw (by omega) (by omega) cr hB wS rfl
           (NX (Pg.mono (tg.uK _)) (d'.mono (tg.uK _)) (by rw[cz,Jo]) bJ FL jq)
          refine⟨_,_,_,gG,Fi,nc.trans wv,?_⟩;exact .pE bK.ay 0 (cV+n) _ ⟨w.heap.size,grownCap w (cV+n) dT el*sz,sz⟩ (bL.jP _ _ _) jq (by simp)
        ·--a slice auZ room
         have gG:=Rp (P:=P) (w:=w) ts iD dx el eM i z hu lP r0 ak ri (some ⟨L.r,fI,none⟩) 0 0 n dv [] rm hlen
          (fun fT=>by simp[Builtin.firstCells,loadCells,loadCellsFrom])
          (fun fT=>by rw[r8];exact ej fT) (by omega) aK aH
         have jq:=grownCap_ge w (0+n) 0 el;have ai4:dH=[]:=zk.1 (by omega);subst ai4
         obtain⟨Fi,wv⟩:=tg.drew.YQ (H':=jS) (f:=bw) (l:=du) (l0:=l) (cells:=[]++new) (elem:=el) (ef:=ef) (sh:=sh)
          (o:=.cells (([]:List Value).toArray++(rm.toArray++Builtin.zeroCells z.cells (grownCap w (0+n) 0 el -(0+n)))) el) (L:=⟨w.heap.size,grownCap w (0+n) 0 el*sz,sz⟩) sj vc GF oy aw (by omega) (by omega) cr hB wS rfl
          (NX (bT.nil _) (d'.mono (tg.uK _)) (by rw[cz,Jo]) bJ FL jq)
         refine⟨_,_,_,gG,Fi,nc.trans wv,?_⟩;exact .pE bK.ay 0 (0+n) _ ⟨w.heap.size,grownCap w (0+n) 0 el*sz,sz⟩ (bL.jP _ _ _) jq (by simp)
       |_=>simp at he
    ·rw[ME CN,da] at he
     --sA exact auo
     have ls:∀a,base=some a->a.spot=none:=fun a q=>by
      subst q;cases q:a.spot with
      |none=>rfl
      |some k=>
       exfalso;cases aA:Nat.ble (cV+n) h4 with
       |true=>rw[aA] at he;simp[q] at he
       |false=>rw[aA] at he;simp[yL,q] at he
     have Ot:(base=none/\cQ=.slice none cV h4)\/(∃id off L,base=some ⟨id,off,none⟩/\μ id=some L/\cQ=.slice (some ⟨L.r,off,none⟩) cV h4):=by
      cases base with
      |none=>exact .inl ⟨rfl,hs.sx⟩
      |some a=>
       obtain⟨id,off,L,fI,dT,rfl,a4,rfl,ah,_,to⟩:=hs.vq (.inl (ls a rfl));rcases to with⟨_,rfl,rfl⟩|⟨q,_⟩|⟨q,_⟩
       ·exact .inr ⟨id,fI,L,rfl,a4,rfl⟩
       ·exact absurd q CN
       ·exact absurd q CN
     cases ng:Nat.ble (cV+n) h4 with
     |true=>
      rw[ng,b4] at he;have ng:=hv ng;rcases Ot with⟨rfl,rfl⟩|⟨id,off,L,rfl,a4,rfl⟩
      ·simp only at he;cases hj:Nat.beq n 0 with
       |false=>rw[hj] at he;simp at he
       |true=>
        rw[hj,b4] at he;simp only[cl,dm] at he;obtain⟨rfl,rfl⟩:=he;have hj:=eb hj;subst hj;refine⟨_,w,μ,?_,h,Step.refl _ _,hs⟩;exact Lc ts iD dx elem eM i hu lP r0 ak none cV h4 0 dv rm w hlen tt ng (fun a q=>by cases q) (fun _=>rfl)
      ·simp only at he;cases dn:rT H id (off+cV*sz) new with
       |none=>rw[dn] at he;simp at he
       |some H1=>
        rw[dn] at he;simp only[cl,dm] at he;obtain⟨rfl,rfl⟩:=he;obtain⟨a5,a7,bc,cu⟩:=I7 h a4 d' dn;refine⟨.slice (some ⟨L.r,off,none⟩) (cV+n) h4,a5,μ,?_,bc,cu,?_⟩
        ·exact Lc ts iD dx elem eM i hu lP r0 ak (some ⟨L.r,off,none⟩) cV h4 n dv rm a5 hlen tt ng (fun a q=>by
          injection q with q;subst q
          rw[Addr.qI,r8];exact a7) (fun q=>by cases q)
        ·have b9:h4<cG:=by
          obtain⟨_,_,_,_,_,_,_,_,_,_,to⟩:=hs.vq (.inl rfl);rcases to with⟨q,_⟩|⟨q,_⟩|⟨q,_⟩
          ·exact q
          ·exact absurd q CN
          ·exact absurd q CN
         exact .nu id off _ _ L a4 b9
     |false=>
      rw[ng,da,show yL base=true from by rcases Ot with⟨rfl,_⟩|⟨_,_,_,rfl,_⟩<;>rfl,b4] at he;have ng:h4<cV+n:=by
       rcases hL h4 (cV+n) with q|q
       ·exact q
       ·rw[lH q] at ng;cases ng
      cases hold:jn H sz cV (.slice base cV h4) with
      |none=>rw[hold] at he;simp at he
      |some dH=>
       rw[hold] at he;simp only at he;obtain⟨Yo,Dm,Dn⟩:=I5 h hs (m:=cV) rfl (bF _) hold;cases g':Nat.beq dH.length (cV*sz) with
       |false=>rw[g'] at he;simp at he
       |true=>
        rw[g',b4] at he;have g':=eb g';unfold fresh at he;cases gr:H.n8 (dH++new) elem false with
        |none=>rw[gr] at he;simp at he
        |some p=>
         obtain⟨al4,H1⟩:=p;rw[gr] at he;simp only[cl,dm] at he;obtain⟨rfl,rfl⟩:=he;have jq:=grownCap_ge w (cV+n) h4 elem;have FL:(dH++new).length=(cV+n)*sz:=by rw[eY,g',dU,cR]
         obtain⟨a7,bc,rfl⟩:=h.drew.Qp (o:=.cells (Yo.toArray++(rm.toArray++Builtin.zeroCells z.cells (grownCap w (cV+n) h4 elem -(cV+n)))) elem) (L:=⟨w.heap.size,grownCap w (cV+n) h4 elem*sz,sz⟩) gr rfl
          (fun f=>NX (Dm.mono (h.uK _)) (d'.mono (h.uK _)) (Rz dF) bJ FL jq)
         have aju:∃b',cQ=.slice b' cV h4:=by
          rcases Ot with⟨_,q⟩|⟨_,_,_,_,_,q⟩
          ·exact⟨_,q⟩
          ·exact⟨_,q⟩
         obtain⟨b',rfl⟩:=aju
         have gG:=Rp (P:=P) (w:=w) ts iD dx elem eM i z hu lP r0 ak ri b' cV h4 n dv Yo rm hlen
          (fun fT=>by rw[r8];exact Dn fT) (fun fT=>by rw[r8];exact ej fT) ng aK aH
         exact⟨_,_,_,gG,a7,bc,.pE H.ay 0 (cV+n) _ _ (bL.jP _ _ _) jq (by simp)⟩
   |_=>simp at he
  |_=>simp at he
end
end
end Go.Cre
namespace Go.Cre
noncomputable section
open Go.RowKit
section
variable {P:Program}{B:Nat->Prop}{w0 w:World}{μ:bL}{H H':an}
theorem afI(h:bX P B w0 μ H w){rv ts dx:TypeId}{d kN s cQ v:Value}(al:bg μ d kN)(hs:bg μ s cQ)(he:Ny P H rv d s=some (v,H')):
 ∃v' a5,(Builtin.copy_ #[rv,ts] dx #[kN,cQ]).run P w=.ok v' a5/\bX P B w0 μ H' a5/\Step μ μ H H'/\bg μ v v':=by
 unfold Ny at he;cases hu:P.underlying rv with
 |none=>rw[hu] at he;simp at he
 |some t=>
  rw[hu] at he;cases t with
  |slice elem=>
   cases d with
   |slice base uD asy=>
    cases ap:rk s with
    |none=>rw[ap] at he;simp at he
    |some cV=>
     rw[ap] at he;simp only at he;cases dF:ey P elem with
     |none=>rw[dF] at he;simp at he
     |some sz=>
      rw[dF] at he;simp only at he;generalize az:(bif Nat.ble cV uD then cV else uD)=n at he;have JR:Nat.min cV uD=n:=by
          rw[<-az];cases ai:Nat.ble cV uD with
          |true=>have:=hv ai;simp;exact fV this
          |false=>
           have:¬cV<=uD:=fun q=>by rw[lH q] at ai;cases ai
           simp;exact Nat.min_eq_right (by omega)
      have ai2:n<=cV:=by rw[<-JR];exact Nat.min_le_left _ _
      cases aA:jn H sz n s with
      |none=>rw[aA] at he;simp at he
      |some cells=>
       rw[aA] at he;simp only at he;obtain⟨cells',bp,bN⟩:=I5 h hs ap ai2 aA;have hlen:=Xj (P:=P) hs ap;have VH:(Builtin.firstCells sz n cQ).run P w=.ok cells'.toArray w:=bN w.drawn;cases base with
       |none=>
        simp only[cl,dm] at he;obtain⟨rfl,rfl⟩:=he;rw[al.sx];refine⟨.int .i64 n,w,?_,h,Step.refl _ _,.atom _ rfl⟩;simp[Builtin.copy_,eE hu,hlen,JR,kk dF,VH,goInt]
       |some a=>
        have ls:a.spot=none:=by
         cases q:a.spot with
         |none=>rfl
         |some _=>simp[q] at he
        obtain⟨id,off,L,fI,dT,rfl,a4,rfl,ah,_,_⟩:=al.vq (.inl ls);simp only at he;cases nd:cells.all eV with
        |false=>rw[nd] at he;simp at he
        |true=>
         rw[nd] at he;simp only[oc,da] at he;cases dn:rT H id off cells with
         |none=>rw[dn] at he;simp at he
         |some H1=>
          rw[dn] at he;simp only[cl,dm] at he;obtain⟨rfl,rfl⟩:=he;obtain⟨a5,a7,bc,cu⟩:=I7 h a4 bp dn;refine⟨.int .i64 n,a5,?_,bc,cu,.atom _ rfl⟩;have ajE:(storeCells ⟨L.r,fI,none⟩ cells').run P w=.ok () a5:=by
            by_cases aN:0<uD
            ·rw[ah aN];exact a7
            ·have hj:n=0:=by rw[<-JR];have:uD=0:=by omega
                             rw[this];exact Nat.min_zero _
             have:cells=[]:=by
              subst hj;cases s with
              |slice b l c=>cases b with
               |none=>simp[jn] at aA;exact aA
               |some b=>
                simp[jn] at aA;exact aA
              |string s=>simp[jn,takeN] at aA;exact aA
              |_=>simp[rk] at ap
             subst this;have:=bp.kz;subst this;simp only[storeCells] at a7 ⊢;exact a7
          simp[Builtin.copy_,eE hu,hlen,JR,kk dF,VH,goInt,ajE]
   |_=>simp at he
  |_=>simp at he
theorem afG(h:bX P B w0 μ H w){t dx:TypeId}{x dv v:Value}(al:bg μ x dv)(he:Nw P H t x=some (v,H')):
 ∃v' a5,(Builtin.clear_ #[t] dx #[dv]).run P w=.ok v' a5/\bX P B w0 μ H' a5/\Step μ μ H H'/\bg μ v v':=by
 have PG:bg μ (.tuple #[]) (.tuple #[]):=.tuple _ _ rfl (fun i v v' q=>by simp at q);unfold Nw at he;split at he
 ·rename_i d l c hu;simp only[cl,dm] at he;obtain⟨rfl,rfl⟩:=he;rw[al.sx];exact⟨.tuple #[],w,by simp[Builtin.clear_,eE hu],h,Step.refl _ _,PG⟩
 ·rename_i d a c hu;simp only[cl,dm] at he;obtain⟨rfl,rfl⟩:=he;obtain⟨bO,dT,rfl⟩:=al.y7;exact⟨.tuple #[],w,by simp[Builtin.clear_,eE hu],h,Step.refl _ _,PG⟩
 ·rename_i elem a n c hu;split at he
  ·rename_i z ls aG;cases eQ:plain z with
   |false=>rw[eQ] at he;cases he
   |true=>
    rw[eQ,b4] at he;split at he
    ·rename_i H1 dn;simp only[cl,dm] at he;obtain⟨rfl,rfl⟩:=he;obtain⟨id,off,L,fI,dT,rfl,a4,rfl,ah,_,_⟩:=al.vq (.inl ls);have ah:=ah (Nat.succ_pos n);subst ah;have sd:bT μ z.cells.toList z.cells.toList:=(py eQ).cells;have wC:bT μ (fp z.cells.toList (n+1)) (fp z.cells.toList (n+1)):=bT.DH fun v ar=>by
      exact HU (p:=fun v=>bg μ v v) ar (fun u hu=>by
       obtain⟨i,ak⟩:=zm.1 hu;exact sd.2 i u u ak ak)
     obtain⟨a5,a7,bc,cu⟩:=I7 h a4 wC dn;refine⟨.tuple #[],a5,?_,bc,cu,PG⟩;have gl:=HV z.cells.toList (n+1);have e:(Builtin.zeroCells z.cells (n+1)).toList=fp z.cells.toList (n+1):=by
      have:Builtin.zeroCells z.cells (n+1)=(fp z.cells.toList (n+1)).toArray:=by
       rw[<-gl];simp[Builtin.zeroCells]
      rw[this]
     simp[Builtin.clear_,eE hu,vx aG,e,a7]
    ·cases he
  ·cases he
 ·cases he
theorem anr:∀{hO:List Field} {ps:List (Nat×Nat)},places P hO=some ps->ps.length=hO.length/\∀w,(hO.mapM (fun f=>Prod.mk f.offset <$> sizeOf f.type):Sem (List (Nat×Nat))).run P w=.ok ps w:=by
 intro hO;induction hO with
 |nil=>intro ps h;simp[places] at h;subst h;exact⟨rfl,fun w=>by simp⟩
 |cons f hO aP=>
  intro ps h;simp only[places] at h;cases hs:ey P f.type with
  |none=>rw[hs] at h;simp at h
  |some n=>
   rw[hs] at h;cases ao:places P hO with
   |none=>rw[ao] at h;simp at h
   |some r=>
    rw[ao] at h;simp only[cl] at h;subst h;obtain⟨a,b⟩:=aP ao;refine⟨by simp[a],fun w=>?_⟩;simp[SU,kk hs,b]
theorem agp(vs:List Value):∀(c:Array Value) (off k:Nat),(vs.zipIdx k).foldl (fun cs (x:Value×Nat)=>cs.setIfInBounds (off+x.2) x.1) c=qu c (off+k) vs:=by
 induction vs with
 |nil=>intro c off k;rfl
 |cons v vs aP=>intro c off k;simp only[List.zipIdx_cons,Ig,qu];rw[aP];congr 1
theorem apg{off:Nat}{cells vs MT:List Value}(h:gf off cells vs=some MT):qu cells.toArray off vs=MT.toArray:=by
 obtain⟨aw,aR,cf⟩:=RC h;apply DW
 intro i;rw[Lh _ _ _ _ (by simpa using aR)];have:=cf i;simp only[abx];rw[this]
theorem api{off:Nat}{cells cells' vs mT r:List Value}(aD:bT μ cells cells')(ar:bT μ vs mT)(h:gf off cells vs=some r):∃ch,gf off cells' mT=some ch/\bT μ r ch:=by
 induction off generalizing cells cells' r with
 |zero=>
  induction vs generalizing cells cells' mT r with
  |nil=>
   have:=ar.kz;subst this;simp[gf] at h;subst h;exact⟨cells',by simp[gf],aD⟩
  |cons v vs aP=>
   obtain⟨v',k7,rfl,ab,ad⟩:=ar.iZ;cases cells with
   |nil=>simp[gf] at h
   |cons c cs=>
    obtain⟨c',cy,rfl,bY,bZ⟩:=aD.iZ;simp only[gf] at h ⊢;cases hs:gf 0 cs vs with
    |none=>rw[hs] at h;simp at h
    |some kB=>
     rw[hs] at h;simp only[cl] at h;subst h;obtain⟨ch,aw,aR⟩:=aP ad bZ hs;rw[aw];exact⟨v'::ch,rfl,bT.cons ab aR⟩
 |succ n aP=>
  cases cells with
  |nil=>simp[gf] at h
  |cons c cs=>
   obtain⟨c',cy,rfl,bY,bZ⟩:=aD.iZ;simp only[gf] at h ⊢;cases hs:gf n cs vs with
   |none=>rw[hs] at h;simp at h
   |some kB=>
    rw[hs] at h;simp only[cl] at h;subst h;obtain⟨ch,aw,aR⟩:=aP bZ hs;rw[aw];exact⟨c'::ch,rfl,bT.cons bY aR⟩
def vM(μ:bL)(l l':List (Nat×Value)):Prop:=l.length=l'.length/\∀(i:Nat) p hG,l[i]?=some p->l'[i]?=some hG->p.1=hG.1/\bg μ p.2 hG.2
theorem vM.iZ{p:Nat×Value}{l m:List (Nat×Value)}(h:vM μ (p::l) m):∃v' l',m=(p.1,v')::l'/\bg μ p.2 v'/\vM μ l l':=by
 cases m with
 |nil=>have:=h.1;simp at this
 |cons q l'=>
  obtain⟨a,b⟩:=h.2 0 p q rfl rfl;refine⟨q.2,l',by rw[a],b,by have:=h.1;simpa using this,fun i x y U au=>h.2 (i+1) x y (by simpa using U) (by simpa using au)⟩
theorem I'{place:Nat->Option (Nat×Nat)}:∀{parts mm:List (Nat×Value)} {cells cells' r:List Value},vM μ parts mm->bT μ cells cells'->m8 place cells parts=some r->
 ∃ch,Instr.fill place cells'.toArray mm=some ch.toArray/\bT μ r ch:=by
 intro parts;induction parts with
 |nil=>
  intro mm cells cells' r ao aD he;have:mm=[]:=zk.1 (by have:=ao.1;simpa using this.symm);subst this;simp[m8] at he;subst he;exact⟨cells',rfl,aD⟩
 |cons p parts aP=>
  intro mm cells cells' r ao aD he;obtain⟨v',l',rfl,ab,ad⟩:=ao.iZ;obtain⟨i,v⟩:=p;simp only[m8] at he;cases eQ:place i with
  |none=>rw[eQ] at he;simp at he
  |some q=>
   obtain⟨off,size⟩:=q;rw[eQ] at he;simp only at he;cases ai:Nat.beq v.cells.toList.length size with
   |false=>rw[ai] at he;simp at he
   |true=>
    rw[ai,b4] at he;have ai:=eb ai;cases hs:gf off cells v.cells.toList with
    |none=>rw[hs] at he;simp at he
    |some MT=>
     rw[hs] at he;simp only at he;have ar:=ab.cells;obtain⟨ade,s1,s2⟩:=api aD ar hs;obtain⟨ch,a,b⟩:=aP ad s2 he;refine⟨ch,?_,b⟩;obtain⟨aw,aR,cf⟩:=RC s1;have lQ:=ar.1;have aG:v'.cells.size=size:=by simp at lQ ai;omega
     have gl:v'.cells.toList.length=v'.cells.size:=by simp
     have aiD:(v'.cells.zipIdx.foldl (fun cs (x:Value×Nat)=>cs.setIfInBounds (off+x.2) x.1) cells'.toArray)=ade.toArray:=by
      rw[<-Array.foldl_toList,Array.toList_zipIdx,agp,ik];exact apg s1
     have ag7:¬(v'.cells.size≠size):=by omega
     have ag9:¬(off+v'.cells.size>cells'.toArray.size):=by
      simp only[S3];rw[<-gl];omega
     simp only[Instr.fill,eQ];rw[aZ (by simp only[xJ,I3];exact not_or.2 ⟨ag7,ag9⟩),aiD];exact a
theorem afE{t:TypeId}{parts mm:List (Nat×Value)}{v:Value}(ao:vM μ parts mm)(he:EZ P t parts=some v)(w:World):
 ∃v',(Instr.build t mm.toArray).run P w=.ok v' w/\bg μ v v':=by
 unfold EZ at he;cases aG:gX P t with
 |none=>rw[aG] at he;simp at he
 |some z=>
  rw[aG] at he;cases hu:P.underlying t with
  |none=>rw[hu] at he;simp at he
  |some d=>
   rw[hu] at he;have sd:plain z=true->bT μ z.cells.toList z.cells.toList:=fun q=>(py q).cells;cases d with
   |struct fields=>
    simp only at he;cases eQ:plain z with
    |false=>rw[eQ] at he;simp at he
    |true=>
     rw[eQ,b4] at he;cases Pl:places P fields.toList with
     |none=>rw[Pl] at he;simp at he
     |some ps=>
      rw[Pl] at he;simp only at he;cases aA:m8 (nth ps) z.cells.toList parts with
      |none=>rw[aA] at he;simp at he
      |some cells=>
       rw[aA] at he;simp only[cl] at he;subst he;obtain⟨ch,a,b⟩:=I' ao (sd eQ) aA;obtain⟨_,hm⟩:=anr Pl;refine⟨.agg ch.toArray,?_,bg.Em b⟩;have az:(fun i=>ps[i]?)=nth ps:=by funext i;rw[kA]
       have gG:(Array.mapM (fun f=>Prod.mk f.offset <$> sizeOf f.type) fields:Sem (Array (Nat×Nat))).run P w=.ok ps.toArray w:=by
        rw[aa9];simp[hm]
       have bO:Instr.fill (fun x=>ps[x]?) z.cells mm=some ch.toArray:=by rw[az];simpa using a
       simp[Instr.build,vx aG,eE hu,gG,bO]
   |array len elem=>
    simp only at he;cases eQ:plain z with
    |false=>rw[eQ] at he;simp at he
    |true=>
     rw[eQ,b4] at he;cases hs:ey P elem with
     |none=>rw[hs] at he;simp at he
     |some sz=>
      rw[hs] at he;simp only at he;cases aA:m8 (fun i=>some (i*sz,sz)) z.cells.toList parts with
      |none=>rw[aA] at he;simp at he
      |some cells=>
       rw[aA] at he;simp only[cl] at he;subst he;obtain⟨ch,a,b⟩:=I' ao (sd eQ) aA;refine⟨.agg ch.toArray,?_,bg.Em b⟩;have bO:Instr.fill (fun i=>some (i*sz,sz)) z.cells mm=some ch.toArray:=by simpa using a
       simp[Instr.build,vx aG,eE hu,kk hs,bO]
   |_=>simp at he
theorem afD(h:bX P B w0 μ H w){t:TypeId}{len:Nat}{parts mm:List (Nat×Value)}{v:Value}(ao:vM μ parts mm)(he:E0 P H t len parts=some (v,H')):
 ∃v' a5 bf,(Instr.buildSlice t len mm.toArray).run P w=.ok v' a5/\bX P B w0 bf H' a5/\Step μ bf H H'/\bg bf v v':=by
 unfold E0 at he;cases hu:P.underlying t with
 |none=>rw[hu] at he;simp at he
 |some d=>
  rw[hu] at he;cases d with
  |slice elem=>
   simp only at he;cases hs:ey P elem with
   |none=>rw[hs] at he;simp at he
   |some sz=>
    rw[hs] at he;cases aG:gX P elem with
    |none=>rw[aG] at he;simp at he
    |some z=>
     rw[aG] at he;simp only at he;cases aD:(Nat.ble len 100000&&Nat.ble (len*sz) 100000&&plain z&&Nat.beq z.cells.toList.length sz) with
     |false=>rw[aD] at he;simp at he
     |true=>
      rw[aD,b4] at he;simp only[gg] at aD;obtain⟨⟨⟨hT,aK⟩,aH⟩,bJ⟩:=aD;have hT:=hv hT;have aK:=hv aK;have bJ:=eb bJ;cases aA:m8 (fun i=>some (i*sz,sz)) (fp z.cells.toList len) parts with
      |none=>rw[aA] at he;simp at he
      |some cells=>
       rw[aA] at he;simp only at he;cases ah:cells.all eV with
       |false=>rw[ah] at he;simp at he
       |true=>
        rw[ah,b4] at he;cases az:tI H elem cells with
        |none=>rw[az] at he;simp at he
        |some p=>
         obtain⟨id,H1⟩:=p;rw[az] at he;simp only[cl,dm] at he;obtain⟨rfl,rfl⟩:=he;have sd:bT μ z.cells.toList z.cells.toList:=(py aH).cells;have wC:bT μ (fp z.cells.toList len) (fp z.cells.toList len):=bT.DH fun v ar=>
          HU (p:=fun v=>bg μ v v) ar (fun u hu=>by
           obtain⟨i,ak⟩:=zm.1 hu;exact sd.2 i u u ak ak)
         obtain⟨ch,a,b⟩:=I' ao wC aA;obtain⟨bf,L,cL,eA,lU,sj,_⟩:=QF h b az;refine⟨.slice (some ⟨w.heap.size,0,none⟩) len len,_,bf,?_,cL,eA,?_⟩
         ·have gl:=HV z.cells.toList len;have aka:z.cells.size=sz:=by simpa using bJ
          have Ou:¬(16777216<len*sz):=by omega
          rw[bJ] at gl;simp only[aa'] at gl;by_cases aN:len*sz=0
          ·have wI:fp z.cells.toList len=[]:=zk.1 (by rw[Sk,bJ];exact aN);rw[wI] at a;have bO:Instr.fill (fun i=>some (i*sz,sz)) (Array.map (fun _=>(default:Value)) (Array.range 0)) mm=some ch.toArray:=by
            have jX:Array.map (fun _:Nat=>(default:Value)) (Array.range 0)=#[]:=by simp
            rw[jX];exact a
           simp[Instr.buildSlice,eE hu,kk hs,aN,bO,newRow,newObj,Sem.run]
          ·have bO:Instr.fill (fun i=>some (i*sz,sz)) ((Array.range (len*sz)).map fun i=>z.cells[i % z.cells.size]!) mm=some ch.toArray:=by rw[gl];exact a
           simp[Instr.buildSlice,eE hu,kk hs,Ou,aN,vx aG,bO,newRow,newObj,Sem.run]
         ·rw[<-sj];refine .nu id 0 len len L lU ?_;have:(100000:Nat)<cG:=by decide
          omega
  |_=>simp at he
end
end
end Go.Cre
namespace Go.Cre
noncomputable section
open Go.RowKit
section
variable {P:Program}{B:Nat->Prop}{w0 w:World}{μ:bL}{H H':an}
theorem UF{α:Type}{s:Sem α}{a:α}(h:e0 P s=some a)(w:World):s.run P w=.ok a w:=by
 induction s generalizing w with
 |pure b=>simp[e0] at h;subst h;rfl
 |program k aP=>exact aP P (by simpa[e0] using h) w
 |mark m k aP=>exact aP (by simpa[e0] using h) w
 |_=>simp[e0] at h
theorem bX.aaX(h:bX P B w0 μ H w){id:Nat}{L:Loc}{b b':e3}{o':Obj}(a4:μ id=some L)(ax:H.bz<=id)(hm:H.mem.get id=some b)(fZ:∀c e o f z s,b≠.row c e o f z s)(al:b≠.dead)
 (hu:H.upd id b'=some H')(ox:∀c e o f z s,b'≠.row c e o f z s)(ai:jx P μ L b' o'):
 bX P B w0 μ H' {w with heap:=w.heap.setIfInBounds L.r o'}/\Step μ μ H H':=by
 obtain⟨u1,bU,tV,Be,sB⟩:=an.qv hu;have uW:H.mem.get id≠some .dead:=by rw[hm];intro q;injection q with q;exact al q
 refine h.write a4 ax uW u1 tV Be (by rw[sB];simp) (fun x U=>.inl (by rw[sB,aZ U])) ?_ (fun f l ap=>.inl (by rw[bU];exact ap)) (fun f l ap=>.inl (by rw[<-bU];exact ap))
  (fun c e f z s q=>absurd q (ox _ _ _ _ _ _)) (fun q=>by
   rw[hm] at q;cases b with
   |row c e o f z s=>exact absurd rfl (fZ _ _ _ _ _ _)
   |_=>simp[j1] at q) ai
 intro x bR U ow aq;rcases h.sep id x L bR (Ne.symm U) a4 ow aq.symm with d|d|⟨f',l,⟨bp,aw,dI,Ld,q⟩,_⟩
 ·exact absurd d uW
 ·rw[sB,aZ U];exact d
 ·rw[hm] at q;injection q with q;exact absurd q (fZ _ _ _ _ _ _)
end
end
end Go.Cre
namespace Go.Cre
noncomputable section
open Go.RowKit
section
variable {P:Program}{B:Nat->Prop}{w0 w:World}{μ:bL}{H H':an}
theorem af6{x dv v:Value}{xt asserted:TypeId}{ok:Bool}(U:bg μ x dv)(he:Cg P x asserted ok=some v)(w:World):
 ∃v',(Instr.typeAssert dv xt asserted ok).run P w=.ok v' w/\bg μ v v':=by
 unfold Cg at he;simp only at he
 have OG:∀v,(bif ok then(match gX P asserted with|some z=>bif plain z then some (Value.tuple #[z,.bool false]) else none|none=>none) else none)=some v->
  ok=true/\∃z,gX P asserted=some z/\plain z=true/\v=.tuple #[z,.bool false]:=by
  intro v ar;cases ok with
  |false=>simp at ar
  |true=>
   simp only[b4] at ar;cases aG:gX P asserted with
   |none=>rw[aG] at ar;simp at ar
   |some z=>
    rw[aG] at ar;simp only at ar;cases ao:plain z with
    |false=>rw[ao] at ar;simp at ar
    |true=>rw[ao] at ar;simp at ar;exact⟨rfl,z,rfl,ao,ar.symm⟩
 have FZ:∀z,plain z=true->bg μ (.tuple #[z,.bool false]) (.tuple #[z,.bool false]):=fun z aG=>bg.RP (bT.cons (py aG) (bT.cons (.atom _ rfl) (bT.nil _)));have Wh:∀y mv,bg μ y mv->bg μ (bif ok then .tuple #[y,.bool true] else y) (if ok then .tuple #[mv,.bool true] else mv):=fun y mv au=>by
  cases ok with
  |true=>exact bg.RP (bT.cons au (bT.cons (.atom _ rfl) (bT.nil _)))
  |false=>exact au
 cases hu:P.underlying asserted with
 |none=>rw[hu] at he;simp at he
 |some d=>
  rw[hu] at he;cases x with
  |nilIface=>
   rw[U.GU];have ar:(bif ok then(match gX P asserted with|some z=>bif plain z then some (Value.tuple #[z,.bool false]) else none|none=>none) else none)=some v:=by
    cases d<;>exact he
   obtain⟨rfl,z,aG,ao,rfl⟩:=OG v ar;refine⟨_,?_,FZ z ao⟩;cases d<;>simp[Instr.typeAssert,eE hu,vx aG]
  |iface t y=>
   obtain⟨mv,rfl,au⟩:=U.wX;by_cases ak:∃want,d=.interface want
   ·obtain⟨want,rfl⟩:=ak;simp only at he;cases JJ:P.info? t with
    |none=>rw[JJ] at he;simp at he
    |some i=>
     rw[JJ] at he;simp only at he;cases q':Instr.missingMethod want i.methods with
     |none=>
      rw[q'] at he;simp only[cl] at he;subst he;refine⟨_,?_,Wh _ _ (.iface t y mv au)⟩;simp[Instr.typeAssert,eE hu,typeInfo,JJ,q']
     |some GV=>
      rw[q'] at he;obtain⟨rfl,z,aG,ao,rfl⟩:=OG v he;refine⟨_,?_,FZ z ao⟩;simp[Instr.typeAssert,eE hu,typeInfo,JJ,q',vx aG]
   ·have p1:(bif Nat.beq t asserted then some (bif ok then .tuple #[y,.bool true] else y) else(bif ok then(match gX P asserted with|some z=>bif plain z then some (Value.tuple #[z,.bool false]) else none|none=>none) else none))=some v:=by
     cases d<;>first|exact he|exact absurd ⟨_,rfl⟩ ak
    cases ai:Nat.beq t asserted with
    |true=>
     rw[ai,b4] at p1;simp only[cl] at p1;subst p1;have:=eb ai;subst this;refine⟨_,?_,Wh _ _ au⟩;cases d<;>first|exact absurd ⟨_,rfl⟩ ak|simp[Instr.typeAssert,eE hu]
    |false=>
     rw[ai,da] at p1;obtain⟨rfl,z,aG,ao,rfl⟩:=OG v p1;have dQ:t≠asserted:=fun e=>by subst e;simp at ai
     refine⟨_,?_,FZ z ao⟩;cases d<;>first|exact absurd ⟨_,rfl⟩ ak|simp[Instr.typeAssert,eE hu,dQ,vx aG]
  |_=>cases d<;>simp at he
theorem afL{t:TypeId}{x dv y mv:Value}{r:Bool}(U:bg μ x dv)(au:bg μ y mv)(he:ya P t x y=some r)(d:Nat)(w:World):(Op.equalIn (d+1) t dv mv).run P w=.ok r w:=by
 unfold ya at he;cases hu:P.underlying t with
 |none=>rw[hu] at he;simp at he
 |some rv=>
  rw[hu] at he;cases rv with
  |pointer elem=>
   cases x with
   |pointer a=>
    cases y with
    |pointer b=>
     cases a with
     |none=>
      rw[U.Dz];cases b with
      |none=>rw[au.Dz];simp at he;subst he;simp[Op.equalIn,eE hu]
      |some b=>obtain⟨id,off,L,rfl,a4,rfl⟩:=au.oK;simp at he;subst he;simp[Op.equalIn,eE hu]
     |some a=>
      obtain⟨id,off,L,rfl,a4,rfl⟩:=U.oK;cases b with
      |none=>rw[au.Dz];simp at he;subst he;simp[Op.equalIn,eE hu]
      |some b=>
       obtain⟨lR,fI,bR,rfl,ow,rfl⟩:=au.oK;simp only at he;cases hs:ey P elem with
       |none=>rw[hs] at he;simp at he
       |some n=>
        rw[hs] at he;cases n with
        |zero=>simp at he
        |succ n=>
         simp only at he;cases ai:Nat.beq id lR with
         |false=>rw[ai] at he;simp at he
         |true=>
          rw[ai,b4] at he;have:=eb ai;subst this;rw[a4] at ow;injection ow with ow;subst ow
          simp only[cl] at he;subst he;have Aa:(({block:=id,off:=off}:Addr)=={block:=id,off:=fI})=(({block:=L.r,off:=off}:Addr)=={block:=L.r,off:=fI}):=by
           rw[sF];simp
          rw[Aa];simp[Op.equalIn,eE hu,kk hs,sameAddr]
    |_=>simp at he
   |_=>simp at he
  |slice elem=>
   cases x with
   |slice a l c=>
    cases y with
    |slice b l' c'=>
     cases a with
     |none=>
      rw[U.sx];cases b with
      |none=>rw[au.sx];simp at he;subst he;simp[Op.equalIn,eE hu]
      |some b=>obtain⟨_,_,rfl⟩:=au.y7;simp at he;subst he;simp[Op.equalIn,eE hu]
     |some a=>
      obtain⟨_,_,rfl⟩:=U.y7;cases b with
      |none=>rw[au.sx];simp at he;subst he;simp[Op.equalIn,eE hu]
      |some b=>simp at he
    |_=>simp at he
   |_=>simp at he
  |map k e=>
   cases x with
   |map a=>
    cases y with
    |map b=>
     cases a with
     |none=>
      rw[U.GI];cases b with
      |none=>rw[au.GI];simp at he;subst he;simp[Op.equalIn,eE hu]
      |some b=>obtain⟨_,_,rfl⟩:=au.GG;simp at he;subst he;simp[Op.equalIn,eE hu]
     |some a=>
      obtain⟨_,_,rfl⟩:=U.GG;cases b with
      |none=>rw[au.GI];simp at he;subst he;simp[Op.equalIn,eE hu]
      |some b=>simp at he
    |_=>simp at he
   |_=>simp at he
  |func ps rs v=>
   cases x with
   |nilFunc=>
    rw[U.KA];cases y with
    |func fn a b=>
     simp at he;subst he;cases au with
     |atom _ q=>simp[isAtom] at q
     |func=>simp[Op.equalIn,eE hu]
     |yield=>simp[Op.equalIn,eE hu]
    |_=>simp at he
   |func fn a b=>
    cases y with
    |nilFunc=>
     rw[au.KA];simp at he;subst he;cases U with
     |atom _ q=>simp[isAtom] at q
     |func=>simp[Op.equalIn,eE hu]
     |yield=>simp[Op.equalIn,eE hu]
    |_=>simp at he
   |_=>simp at he
  |interface Kt=>
   cases x with
   |nilIface=>
    rw[U.GU];cases y with
    |iface t y=>obtain⟨_,rfl,_⟩:=au.wX;simp at he;subst he;simp[Op.equalIn,eE hu]
    |_=>simp at he
   |iface t x=>
    obtain⟨_,rfl,_⟩:=U.wX;cases y with
    |nilIface=>rw[au.GU];simp at he;subst he;simp[Op.equalIn,eE hu]
    |_=>simp at he
   |_=>simp at he
  |_=>simp at he
theorem ZN{r:Nat}{c:Array Value}{e:TypeId}{f:Nat×Nat}(h:w.heap[r]?=some (.cells c e f)):(shape r).run P w=.ok (some (e,c.size)) w:=by
 simp[shape,Sem.run,World.shape?,h]
theorem aaR{r:Nat}{c:Array Value}{e:TypeId}{f:Nat×Nat}(h:w.heap[r]?=some (.cells c e f)):(viewAt r).run P w=.ok none w:=by
 simp[viewAt,ZN h]
theorem adE{r:Nat}{c:Array Value}{e:TypeId}{f:Nat×Nat}(h:w.heap[r]?=some (.cells c e f)):(cellsIn r).run P w=.ok (some c.size) w:=by
 simp[cellsIn,ZN h]
theorem afH(h:bX P B w0 μ H w){src dst:TypeId}{x dv v:Value}(U:bg μ x dv)(he:Nx P H src dst x=some v):
 ∃v',(convert src dst dv).run P w=.ok v' w/\bg μ v v':=by
 unfold Nx at he;cases hu:P.underlying src with
 |none=>rw[hu] at he;simp at he
 |some ds=>
  rw[hu] at he;cases al:P.underlying dst with
  |none=>rw[al] at he;simp at he
  |some zO=>
   rw[al] at he;cases ds with
   |pointer t=>
    cases zO with
    |unsafePointer=>
     cases x with
     |pointer a=>
      cases a with
      |none=>simp at he
      |some a=>
       obtain⟨id,off,L,rfl,a4,rfl⟩:=U.oK;simp only at he;cases hs:ey P t with
       |none=>rw[hs] at he;simp at he
       |some n=>
        rw[hs] at he;cases n with
        |zero=>simp at he
        |succ n=>
         cases hm:H.mem.get id with
         |none=>rw[hm] at he;simp at he
         |some b=>
          rw[hm] at he;cases b with
          |row cells el opn bw ef sh=>
           simp only at he;cases ai:Nat.blt off cells.length with
           |false=>rw[ai] at he;simp at he
           |true=>
            rw[ai,b4] at he;simp only[cl] at he;subst he;have ai:off<cells.length:=hv ai;obtain⟨c,f,bY,bZ,cz,fu,fM,gN,gp⟩:=h.row a4 hm;have b9:¬(c.size<=off):=by omega
            refine⟨_,?_,U⟩;simp[convert,eE hu,eE al,Conv.unsafePointer,Conv.seenAt,aaR bY,adE bY,b9,kk hs]
          |_=>simp at he
     |_=>simp at he
    |_=>simp at he
   |unsafePointer=>
    cases zO with
    |pointer u=>
     cases x with
     |pointer a=>
      cases a with
      |none=>simp at he
      |some a=>
       obtain⟨id,off,L,rfl,a4,rfl⟩:=U.oK;simp only at he;cases hs:ey P u with
       |none=>rw[hs] at he;simp at he
       |some n=>
        rw[hs] at he;cases n with
        |zero=>simp at he
        |succ n=>
         cases hm:H.mem.get id with
         |none=>rw[hm] at he;simp at he
         |some b=>
          rw[hm] at he;cases b with
          |row cells el opn bw ef sh=>
           cases opn with
           |true=>simp at he
           |false=>
            simp only at he;cases ai:liesAt P P.depth el (cells.length / P.cellsOf el) off u 1 with
            |false=>rw[ai] at he;simp at he
            |true=>
             rw[ai,b4] at he;simp only[cl] at he;subst he;obtain⟨c,f,bY,bZ,cz,fu,fM,gN,gp⟩:=h.row a4 hm;have ln:c.size=cells.length:=by rw[bZ,fM rfl]
             have hn:w.shape? L.r=some (el,c.size):=by simp[World.shape?,bY]
             refine⟨_,?_,U⟩;simp[convert,eE hu,eE al,Conv.unsafePointer,Conv.seenAt,aaR bY,kk hs,variablesAt,hn,ln,ai]
          |_=>simp at he
     |_=>simp at he
    |_=>simp at he
   |_=>cases zO<;>simp at he
end
end
end Go.Cre

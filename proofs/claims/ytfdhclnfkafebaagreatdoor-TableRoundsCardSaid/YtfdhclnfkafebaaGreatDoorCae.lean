/- A part of the proof of TableRounds. -/
import Derived.Test.YtfdhclnfkafebaaGreatDoorCad
import Derived.Orders
import Derived.Laws.BytesString
import Derived.Laws.BytesArg
import Derived.Lib.UnsafeStr
set_option linter.unusedVariables false
set_option linter.unusedSimpArgs false
namespace Go.Cre
noncomputable section
open Go.RowKit
section
variable {P:Program}{B:Nat->Prop}{w0 w:World}{μ:b5}{H H':aw}
theorem aqO(z:Array Value)(n:Nat):(Builtin.zeroCells z n).size=n*z.size:=by simp[Builtin.zeroCells]
theorem Oa{a b bV b':List Value}{elem:TypeId}{z:Value}{sz Hg cap f ey r:Nat}{sh:Bool}{bw:b5}(aI:ca bw a bV)(ak:ca bw b b')(ea:P.cellsOf elem=sz)(aL:z.cells.toList.length=sz)(aD:(a++b).length=Hg*sz)(m5:Hg<=cap):
 j5 P bw ⟨r,cap*sz,sz⟩ (.row (a++b) elem true f ey sh) (.cells (bV.toArray++(b'.toArray++Builtin.zeroCells z.cells (cap -Hg))) elem):=by
 have aJ:=aI.append ak;have oh:z.cells.size=sz:=by simpa using aL
 have ahY:(bV.toArray++(b'.toArray++Builtin.zeroCells z.cells (cap -Hg)))=(bV++b').toArray++Builtin.zeroCells z.cells (cap -Hg):=by
  apply rS;simp
 rw[ahY];refine⟨rfl,?_,ea,?_,(fun h=>by cases h),fun i v v' a b=>?_,⟨fun off _ ad af=>by simp at af,fun _=>.inl rfl⟩⟩
 ·rw[Array.size_append,aqO,oh];simp only[S9];rw[<-aJ.1,aD,<-c3];congr 1;omega
 ·show(a++b).length<=cap*sz;rw[aD];exact e0 _ m5
 ·refine aJ.2 i v v' a ?_;have ar:i<(bV++b').length:=by
   have:=(gS.1 a).1;have:=aJ.1;omega
  rw[aa0 (by simpa using ar)] at b;simpa using b
theorem T6{a b:Nat}(h:Nat.blt a b=false):b<=a:=by
 rcases iK a b with q|q
 ·have:=mU q;unfold Nat.blt at h;simp_all
 ·exact q
theorem afl(h:cd P B w0 μ H w){gF hM dH:TypeId}{ht:TypeDesc}{s dC x dP v:Value}(ag:bu μ s dC)(ab:bu μ x dP)(kN:P.underlying hM=some ht)(so:∀k,ht≠.int k)(he:qg P H gF s x=some (v,H')):
 ∃v' bn bw,(Builtin.append_ #[gF,hM] dH #[dC,dP]).run P w=.ok v' bn/\cd P B w0 bw H' bn/\Step μ bw H H'/\bu bw v v':=by
 unfold qg at he;cases hu:P.underlying gF with
 |none=>rw[hu] at he;simp at he
 |some d=>
  rw[hu] at he;cases d with
  |slice elem=>
   cases s with
   |slice base da iE=>
    simp only at he;cases ea:eV P elem with
    |none=>rw[ea] at he;simp at he
    |some sz=>
    rw[ea] at he;cases h3:uQ P elem with
    |none=>rw[h3] at he;simp at he
    |some jm=>
    rw[h3] at he;cases aL:gR P elem with
    |none=>rw[aL] at he;simp at he
    |some z=>
    rw[aL] at he;cases aE:rq x with
    |none=>rw[aE] at he;simp at he
    |some n=>
    rw[aE] at he;simp only at he;cases vc:(Nat.ble (da+n) 1000000&&Nat.ble jm 1000000&&Nat.beq z.cells.toList.length sz) with
    |false=>rw[vc] at he;simp at he
    |true=>
    rw[vc] at he;simp only[ov,dB] at he;simp only[gI] at vc;obtain⟨⟨aX,aU⟩,b0⟩:=vc;have aX:=hZ aX;have aU:=hZ aU;have b0:=eC b0;cases aM:jV H sz n x with
    |none=>rw[aM] at he;simp at he
    |some new=>
    rw[aM] at he;simp only at he;cases gY:(new.all ff&&Nat.beq new.length (n*sz)) with
    |false=>rw[gY] at he;simp at he
    |true=>
    rw[gY] at he;simp only[ov,dB] at he;simp only[gI] at gY;have dN:=eC gY.2;obtain⟨rz,dv,dV⟩:=Jw h ab aE (bX _) aM;have hlen:=Xp (P:=P) ab aE;obtain⟨i,ar,rfl⟩:=MX h3
    have oh:i.zero=some z:=by simpa[gR,ar] using aL
    have sA:i.size=sz:=by simpa[eV,ar] using ea
    have tI:(Builtin.firstCells i.size n dP).run P w=.ok rz.toArray w:=by rw[sA];exact dV w.drawn
    have eA:(cQ:Nat)=1208925819614629174706176:=rfl;by_cases C8:iE=cQ
    ·subst C8;rw[hY,cv] at he;cases base with
     |none=>simp at he
     |some a=>
      obtain⟨id,off,L,fV,ej,rfl,bB,rfl,aj,_,tF⟩:=ag.vN (.inr (.inr (by decide)));simp only at he;cases hm:H.mem.get id with
      |none=>rw[hm] at he;simp at he
      |some b=>
       rw[hm] at he;cases b with
       |row cells el opn bP ey sh=>
        cases opn with
        |false=>simp at he
        |true=>
        simp only at he;cases tD:(Nat.beq el elem&&!Nat.blt id H.bU&&Nat.ble ey (off+da*sz)) with
        |false=>rw[tD] at he;simp at he
        |true=>
        rw[tD] at he;simp only[ov,dB] at he;simp only[gI,s7] at tD;obtain⟨⟨dQ,ee⟩,fB⟩:=tD;have dQ:=eC dQ;subst dQ;have ee:=T6 ee;have fB:=hZ fB;obtain⟨c,f,ck,ch,c6,gg,gh,hg,gW⟩:=h.row bB hm;have JK:L.sz=sz:=by rw[<-c6];exact RJ ea
        cases hG:Nat.beq n 0 with
        |true=>
         rw[hG,cv] at he;simp only[cD,dK] at he;obtain⟨rfl,rfl⟩:=he;have hG:=eC hG;subst hG;have Pn:rz=[]:=by
          have:=dv.1;rw[dN] at this;exact zH.1 (by omega)
         subst Pn;refine⟨_,w,μ,?_,h,Step.refl _ _,ag⟩;have hle:da+0<=ej:=by
          rcases tF with⟨bH,_⟩|⟨_,bM,_⟩|⟨_,bM,db⟩<;>omega
         exact LC gF hM dH el ht i hu kN so ar (some ⟨L.r,fV,none⟩) da ej 0 dP [] w hlen tI hle (fun a _=>rfl) (fun q=>by cases q)
        |false=>
        rw[hG,dB] at he;have asE:0<n:=by
         rcases jj n with q|q
         ·subst q;simp at hG
         ·exact q
        cases Gh:Nat.beq off 0 with
        |false=>rw[Gh] at he;simp at he
        |true=>
        rw[Gh] at he;simp only[ov,dB] at he;have Gh:=eC Gh;subst Gh;cases hold:takeN (da*sz) cells with
        |none=>rw[hold] at he;simp at he
        |some eb=>
        rw[hold] at he;simp only at he;obtain⟨DM,DN,alD⟩:=D5 hold;cases kc:H.bP.get bP with
        |none=>rw[kc] at he;simp at he
        |some l=>
        rw[kc] at he;simp only at he;cases CU:yt H id l with
        |none=>rw[CU] at he;simp at he
        |some p=>
        obtain⟨dF,H1⟩:=p;rw[CU] at he;simp only at he;obtain⟨a7,a0,bJ,cO,gj,jJ,oS,rp,Qi,pre,asY,aj1⟩:=ad' CU;have Pg:∀x,H1.mem.get x=H.mem.get x\/(H1.mem.get x=some .dead/\(kw (H.mem.get x)=true\/H.mem.get x=some .dead)):=fun x=>by
         rcases Qi x with q|q
         ·exact .inl q
         ·exact .inr ⟨q.1,(h.lq bP l x kc q.2).2⟩
        obtain⟨FN,yH⟩:=h.kill (H':=H1) a7 bJ cO Pg (fun f l aD=>⟨l,by rw[a0];exact aD,bx _,fun x a b=>absurd a b⟩) (fun f l aD=>⟨l,by rw[<-a0];exact aD,bx _⟩)
        --sX eb members aoZ stay TR no Qu atM LV is kept
        have ain:∀y∈dF,∀c e f z s,H1.mem.get y=some (.row c e true f z s)->c.length<=cells.length:=fun y aB c e f z s q=>by
         have Gu:=FN.u0 bP l (by rw[a0];exact kc);have vl:=Gu.sublist gj;rw[aj1] at vl aB;rcases gb.1 aB with rfl|aB
         ·rw[oS,hm] at q;injection q with q;injection q with q;subst q;exact bX _
         ·exact(List.pairwise_cons.1 vl).1 y aB _ _ _ _ _ _ _ _ _ _ (by rw[oS];exact hm) q
        --sX second cut
        cases bS:Fi H1 dF (Nat.beq cells.length (da*sz)) with
        |none=>rw[bS] at he;simp at he
        |some p=>
        obtain⟨dq,cz⟩:=p;rw[bS] at he;simp only at he;unfold Fi at bS
        have ty:cd P B w0 μ cz w/\Step μ μ H cz/\cz.aG=H.aG/\cz.cF=H.cF/\cz.bU=H.bU/\cz.bP.get bP=some l/\dq.Sublist l/\(∀x,x∈l->x∉dq->cz.mem.get x=some .dead)/\
         (∀y∈dq,∀c e f z s,cz.mem.get y=some (.row c e true f z s)->c.length<=da*sz)/\(∀x,cz.mem.get x=H.mem.get x\/cz.mem.get x=some .dead):=by
         cases ak:Nat.beq cells.length (da*sz) with
         |true=>
          rw[ak,cv] at bS;simp only[cD,dK] at bS;obtain⟨rfl,rfl⟩:=bS;have ak:=eC ak;exact⟨FN,yH,a7,bJ,cO,by rw[a0];exact kc,gj,rp,fun y aB c e f z s q=>by have:=ain y aB c e f z s q;omega,fun x=>(Pg x).imp (fun q=>q) And.left⟩
         |false=>
          rw[ak,dB] at bS;cases hk:sG H1 H1.aG dF with
          |none=>rw[hk] at bS;simp at bS
          |some Iw=>
           rw[hk] at bS;simp only[cD,dK] at bS;obtain⟨rfl,rfl⟩:=bS;obtain⟨bO,bA,cU,dn,cK,e6⟩:=KE hk;have yO:∀x,x∈dF->Iw.mem.get x=some .dead:=fun x ab=>cK x ab (fun e=>by
            have:=(FN.lq bP l x (by rw[a0];exact kc) (gj.mem ab)).1;omega)
           have Ph:∀x,Iw.mem.get x=H1.mem.get x\/(Iw.mem.get x=some .dead/\(kw (H1.mem.get x)=true\/H1.mem.get x=some .dead)):=fun x=>by
            by_cases ab:x∈dF
            ·exact .inr ⟨yO x ab,(FN.lq bP l x (by rw[a0];exact kc) (gj.mem ab)).2⟩
            ·exact .inl (e6 x (.inl ab))
           obtain⟨ty,sm⟩:=FN.kill (H':=Iw) bO cU dn Ph (fun f l aD=>⟨l,by rw[bA];exact aD,bx _,fun x a b=>absurd a b⟩) (fun f l aD=>⟨l,by rw[<-bA];exact aD,bx _⟩);refine⟨ty,yH.trans sm,by omega,by omega,by omega,by rw[bA,a0];exact kc,br _,fun x ab _=>?_,fun y aB=>by simp at aB,fun x=>?_⟩
           ·by_cases nB:x∈dF
            ·exact yO x nB
            ·have:=rp x ab nB;rcases Ph x with q|q
             ·rw[q];exact this
             ·exact q.1
           ·rcases Ph x with q|q
            ·rw[q];exact(Pg x).imp (fun q=>q) And.left
            ·exact .inr q.1
        obtain⟨ty,sm,c1,fq,mH,mI,j1,mj,na,G3⟩:=ty;cases PI:cz.rF bP (cz.aG::dq) with
        |none=>rw[PI] at he;simp at he
        |some ic=>
        rw[PI] at he;simp only at he;obtain⟨s1,s2,hK,ms,qH⟩:=aw.D3 PI;cases Pl:ic.new (.row (eb++new) el true bP ey sh) with
        |none=>rw[Pl] at he;simp at he
        |some p=>
        obtain⟨aln,mx⟩:=p;rw[Pl] at he;simp only[cD,dK] at he;obtain⟨rfl,rfl⟩:=he;obtain⟨rfl,t1,t2,t3,t4,t5⟩:=aw.qC Pl;have aC:mx.aG=cz.aG+1:=by omega
        have cH:∀m,mx.mem.get m=if m=cz.aG then some (.row (eb++new) el true bP ey sh) else cz.mem.get m:=fun m=>by rw[t5,s1,s2]
        have h0:∀m,mx.bP.get m=if m=bP then some (cz.aG::dq) else cz.bP.get m:=fun m=>by rw[t2,qH]
        have oJ:bP<cz.cF:=by have:=h.q4 _ _ _ _ _ _ hm;omega
        have Gc:(eb++new).length=(da+n)*sz:=by rw[eS,DN,dN,c3]
        have xa:∀y∈dq,∀c e f z s,cz.mem.get y=some (.row c e true f z s)->c.length<=(eb++new).length:=fun y aB c e f z s q=>by
         have:=na y aB c e f z s q;rw[eS,DN];omega
        --LV is kept,atH
        have Pr:ca μ eb (c.toList.take (da*sz)):=by
         have:=hg.take (da*sz);rw[<-DM,rX,gn alD] at this;exact this
        rw[s1];rcases tF with⟨bH,_⟩|⟨_,bM,rfl,db⟩|⟨_,rfl,rfl⟩
        ·omega
        ·--a slice with room of asW own,or none
         by_cases nx:da+n<=ej
         ·--in place
          rw[JK] at db;have AN:(da+n)*sz<=L.N:=by
           have:=e0 sz nx;omega
          have dR:=Zm (P:=P) L.r (da*sz) el f rz 0 c w ck (by rw[<-dv.1,dN,ch];rw[c3] at AN;omega) (fun j bf=>by
           rw[<-dv.1,dN] at bf;exact U3 gW (by rw[c3] at AN;omega) (by omega)) (acd dv gY.1)
          simp only[iI] at dR
          obtain⟨FO,wN⟩:=ty.amW (H':=mx) (f:=bP) (id:=id) (l:=dq) (l0:=l) (cells:=eb++new) (elem:=el) (ey:=ey) (sh:=sh) (o:=.cells c el f) (o':=.cells (qI c (da*sz) rz) el f) (L:=L) mI j1 mj oJ bB (by omega) (h.new id L bB (by omega) (by rw[hm];intro q;cases q)) aC (by omega) (by omega) cH h0 xa
           (fun y b8 aB av=>by
            by_cases ra:cz.mem.get y=some .dead
            ·exact .inl ra
            ·right
             have xe:y∈l/\xj H y bP:=by
              by_cases vr:y=id
              ·subst vr;exact⟨gj.mem jJ,⟨_,_,_,_,hm⟩⟩
              ·rcases h.sep id y L b8 (Ne.symm vr) bB aB av.symm with d|d|⟨f',l',⟨bH,wz,du,LD,q⟩,dG,dL,_,akR⟩
               ·rw[hm] at d;cases d
               ·exact absurd ((G3 y).elim (fun q=>q.trans d) (fun q=>q)) ra
               ·rw[hm] at q;injection q with q;injection q with _ _ _ q;subst q
                rw[kc] at dL;injection dL with dL;subst dL
                exact⟨akR,dG⟩
             have WR:y∈dq:=jh fun hA=>ra (mj y xe.1 hA);obtain⟨b,o,dr,hC,oX⟩:=ty.gf y b8 aB;have m7:cz.mem.get y=H.mem.get y:=(G3 y).resolve_right ra;obtain⟨aed,n1,aqR,aoO,Lu⟩:=xe.2;have atx:=dr;rw[m7,Lu] at dr;injection dr with dr;subst dr
             have aiq:=na y WR _ _ _ _ _ (m7.trans Lu);refine⟨⟨aed,n1,aqR,aoO,m7.trans Lu⟩,WR,_,m7.trans Lu,?_⟩;rw[av,ck] at hC;injection hC with hC;subst hC
             obtain⟨du,dt,BT,BU,L1,Ik,Il⟩:=oX;refine⟨du,by rw[RL];exact dt,BT,BU,fun q=>(by cases q),fun j v v' a b=>?_,Il⟩;rw[LI _ _ _ _ (by rw[<-dv.1,dN,ch];rw[c3] at AN;omega)] at b;have bf:=(gS.1 a).1;rw[bd (by omega)] at b;exact Ik j v v' a b)
           (by
            refine⟨rfl,by rw[RL];exact ch,c6,by rw[Gc];exact AN,fun q=>(by cases q),fun j v v' a b=>?_,gW⟩;rw[LI _ _ _ _ (by rw[<-dv.1,dN,ch];rw[c3] at AN;omega)] at b;rw[SX] at a;rw[DN] at a;split at a
            ·rename_i bf;rw[bd (by omega)] at b;refine Pr.2 j v v' a ?_;rw[ji,bj bf];simpa using b
            ·rename_i bf;have VZ:=(gS.1 a).1;rw[bj (by rw[<-dv.1];omega)] at b;exact dv.2 _ v v' a b)
          refine⟨.slice (some ⟨L.r,0,none⟩) (da+n) ej,_,_,?_,FO,sm.trans wN,?_⟩
          ·exact LC gF hM dH el ht i hu kN so ar (some ⟨L.r,0,none⟩) da ej n dP rz _ hlen tI nx (fun a q=>by
            injection q with q;subst q
            rw[Addr.qZ,sA,j7];exact dR) (fun q=>by cases q)
          ·exact .pQ cz.aG 0 (da+n) ej L (b5.kh _ _ _) nx (by rw[JK];exact db)
         ·--it arO
          have gZ:=RB (P:=P) (w:=w) gF hM dH el ht i z hu kN so ar oh (some ⟨L.r,0,none⟩) da ej n dP (c.toList.take (da*sz)) rz hlen
           (fun gv=>by
            rw[sA];refine run_firstCells_some (P:=P) {w with drawn:=gv} sz da ⟨L.r,0,none⟩ da ej _ (by rw[<-Pr.1,DN]) (fun j v bf=>?_);rw[Addr.qZ,j7];have:=cell_of_row (w:={w with drawn:=gv}) ck j;rw[this];rw[ji] at bf;split at bf
            ·simpa using bf
            ·cases bf)
           (fun gv=>by rw[sA];exact dV gv) (by omega) aX aU
          have jZ:=grownCap_ge w (da+n) ej el
          obtain⟨FO,wN⟩:=ty.drew.YP (H':=mx) (f:=bP) (l:=dq) (l0:=l) (cells:=eb++new) (elem:=el) (ey:=ey) (sh:=sh)
           (o:=.cells ((c.toList.take (da*sz)).toArray++(rz.toArray++Builtin.zeroCells z.cells (grownCap w (da+n) ej el -(da+n)))) el) (L:=⟨w.heap.size,grownCap w (da+n) ej el*sz,sz⟩) mI j1 mj oJ aC (by omega) (by omega) cH h0 xa rfl
           (Oa (Pr.mono (ty.uZ _)) (dv.mono (ty.uZ _)) (by rw[c6,JK]) b0 Gc jZ)
          refine⟨_,_,_,gZ,FO,sm.trans wN,?_⟩;exact .pQ cz.aG 0 (da+n) _ ⟨w.heap.size,grownCap w (da+n) ej el*sz,sz⟩ (b5.kh _ _ _) jZ (by simp)
        ·--a slice atV room
         have gZ:=RB (P:=P) (w:=w) gF hM dH el ht i z hu kN so ar oh (some ⟨L.r,fV,none⟩) 0 0 n dP [] rz hlen
          (fun gv=>by simp[Builtin.firstCells,loadCells,loadCellsFrom])
          (fun gv=>by rw[sA];exact dV gv) (by omega) aX aU
         have jZ:=grownCap_ge w (0+n) 0 el;have aiz:eb=[]:=zH.1 (by omega);subst aiz
         obtain⟨FO,wN⟩:=ty.drew.YP (H':=mx) (f:=bP) (l:=dq) (l0:=l) (cells:=[]++new) (elem:=el) (ey:=ey) (sh:=sh)
          (o:=.cells (([]:List Value).toArray++(rz.toArray++Builtin.zeroCells z.cells (grownCap w (0+n) 0 el -(0+n)))) el) (L:=⟨w.heap.size,grownCap w (0+n) 0 el*sz,sz⟩) mI j1 mj oJ aC (by omega) (by omega) cH h0 xa rfl
          (Oa (ca.nil _) (dv.mono (ty.uZ _)) (by rw[c6,JK]) b0 Gc jZ)
         refine⟨_,_,_,gZ,FO,sm.trans wN,?_⟩;exact .pQ cz.aG 0 (0+n) _ ⟨w.heap.size,grownCap w (0+n) 0 el*sz,sz⟩ (b5.kh _ _ _) jZ (by simp)
       |_=>simp at he
    ·rw[MP C8,dB] at he
     --sX exact att
     have l3:∀a,base=some a->a.spot=none:=fun a q=>by
      subst q;cases q:a.spot with
      |none=>rfl
      |some k=>
       exfalso;cases aM:Nat.ble (da+n) iE with
       |true=>rw[aM] at he;simp[q] at he
       |false=>rw[aM] at he;simp[y1,q] at he
     have OI:(base=none/\dC=.slice none da iE)\/(∃id off L,base=some ⟨id,off,none⟩/\μ id=some L/\dC=.slice (some ⟨L.r,off,none⟩) da iE):=by
      cases base with
      |none=>exact .inl ⟨rfl,ag.sW⟩
      |some a=>
       obtain⟨id,off,L,fV,ej,rfl,bB,rfl,aj,_,tF⟩:=ag.vN (.inl (l3 a rfl));rcases tF with⟨_,rfl,rfl⟩|⟨q,_⟩|⟨q,_⟩
       ·exact .inr ⟨id,fV,L,rfl,bB,rfl⟩
       ·exact absurd q C8
       ·exact absurd q C8
     cases nx:Nat.ble (da+n) iE with
     |true=>
      rw[nx,cv] at he;have nx:=hZ nx;rcases OI with⟨rfl,rfl⟩|⟨id,off,L,rfl,bB,rfl⟩
      ·simp only at he;cases hG:Nat.beq n 0 with
       |false=>rw[hG] at he;simp at he
       |true=>
        rw[hG,cv] at he;simp only[cD,dK] at he;obtain⟨rfl,rfl⟩:=he;have hG:=eC hG;subst hG;refine⟨_,w,μ,?_,h,Step.refl _ _,ag⟩;exact LC gF hM dH elem ht i hu kN so ar none da iE 0 dP rz w hlen tI nx (fun a q=>by cases q) (fun _=>rfl)
      ·simp only at he;cases dR:se H id (off+da*sz) new with
       |none=>rw[dR] at he;simp at he
       |some H1=>
        rw[dR] at he;simp only[cD,dK] at he;obtain⟨rfl,rfl⟩:=he;obtain⟨bn,bO,bA,cU⟩:=JB h bB dv dR;refine⟨.slice (some ⟨L.r,off,none⟩) (da+n) iE,bn,μ,?_,bA,cU,?_⟩
        ·exact LC gF hM dH elem ht i hu kN so ar (some ⟨L.r,off,none⟩) da iE n dP rz bn hlen tI nx (fun a q=>by
          injection q with q;subst q
          rw[Addr.qZ,sA];exact bO) (fun q=>by cases q)
        ·have cA:iE<cQ:=by
          obtain⟨_,_,_,_,_,_,_,_,_,_,tF⟩:=ag.vN (.inl rfl);rcases tF with⟨q,_⟩|⟨q,_⟩|⟨q,_⟩
          ·exact q
          ·exact absurd q C8
          ·exact absurd q C8
         exact .nJ id off _ _ L bB cA
     |false=>
      rw[nx,dB,show y1 base=true from by rcases OI with⟨rfl,_⟩|⟨_,_,_,rfl,_⟩<;>rfl,cv] at he;have nx:iE<da+n:=by
       rcases iK iE (da+n) with q|q
       ·exact q
       ·rw[mU q] at nx;cases nx
      cases hold:jV H sz da (.slice base da iE) with
      |none=>rw[hold] at he;simp at he
      |some eb=>
       rw[hold] at he;simp only at he;obtain⟨Ys,DM,DN⟩:=Jw h ag (m:=da) rfl (bX _) hold;cases hz:Nat.beq eb.length (da*sz) with
       |false=>rw[hz] at he;simp at he
       |true=>
        rw[hz,cv] at he;have hz:=eC hz;unfold fresh at he;cases hA:H.oj (eb++new) elem false with
        |none=>rw[hA] at he;simp at he
        |some p=>
         obtain⟨aln,H1⟩:=p;rw[hA] at he;simp only[cD,dK] at he;obtain⟨rfl,rfl⟩:=he;have jZ:=grownCap_ge w (da+n) iE elem;have Gc:(eb++new).length=(da+n)*sz:=by rw[eS,hz,dN,c3]
         obtain⟨bO,bA,rfl⟩:=h.drew.QF (o:=.cells (Ys.toArray++(rz.toArray++Builtin.zeroCells z.cells (grownCap w (da+n) iE elem -(da+n)))) elem) (L:=⟨w.heap.size,grownCap w (da+n) iE elem*sz,sz⟩) hA rfl
          (fun f=>Oa (DM.mono (h.uZ _)) (dv.mono (h.uZ _)) (RJ ea) b0 Gc jZ)
         have aiY:∃b',dC=.slice b' da iE:=by
          rcases OI with⟨_,q⟩|⟨_,_,_,_,_,q⟩
          ·exact⟨_,q⟩
          ·exact⟨_,q⟩
         obtain⟨b',rfl⟩:=aiY
         have gZ:=RB (P:=P) (w:=w) gF hM dH elem ht i z hu kN so ar oh b' da iE n dP Ys rz hlen
          (fun gv=>by rw[sA];exact DN gv) (fun gv=>by rw[sA];exact dV gv) nx aX aU
         exact⟨_,_,_,gZ,bO,bA,.pQ H.aG 0 (da+n) _ _ (b5.kh _ _ _) jZ (by simp)⟩
   |_=>simp at he
  |_=>simp at he
end
end
end Go.Cre
namespace Go.Cre
noncomputable section
open Go.RowKit
section
variable {P:Program}{B:Nat->Prop}{w0 w:World}{μ:b5}{H H':aw}
theorem afr(h:cd P B w0 μ H w){rI gF dH:TypeId}{d ln s dC v:Value}(aq:bu μ d ln)(ag:bu μ s dC)(he:NG P H rI d s=some (v,H')):
 ∃v' bn,(Builtin.copy_ #[rI,gF] dH #[ln,dC]).run P w=.ok v' bn/\cd P B w0 μ H' bn/\Step μ μ H H'/\bu μ v v':=by
 unfold NG at he;cases hu:P.underlying rI with
 |none=>rw[hu] at he;simp at he
 |some t=>
  rw[hu] at he;cases t with
  |slice elem=>
   cases d with
   |slice base uU arz=>
    cases aD:rq s with
    |none=>rw[aD] at he;simp at he
    |some da=>
     rw[aD] at he;simp only at he;cases ea:eV P elem with
     |none=>rw[ea] at he;simp at he
     |some sz=>
      rw[ea] at he;simp only at he;generalize aE:(bif Nat.ble da uU then da else uU)=n at he;have Kc:Nat.min da uU=n:=by
          rw[<-aE];cases ak:Nat.ble da uU with
          |true=>have:=hZ ak;simp;exact gn this
          |false=>
           have:¬da<=uU:=fun q=>by rw[mU q] at ak;cases ak
           simp;exact Nat.min_eq_right (by omega)
      have aix:n<=da:=by rw[<-Kc];exact Nat.min_le_left _ _
      cases aM:jV H sz n s with
      |none=>rw[aM] at he;simp at he
      |some cells=>
       rw[aM] at he;simp only at he;obtain⟨cells',bH,bM⟩:=Jw h ag aD aix aM;have hlen:=Xp (P:=P) ag aD;have VR:(Builtin.firstCells sz n dC).run P w=.ok cells'.toArray w:=bM w.drawn;cases base with
       |none=>
        simp only[cD,dK] at he;obtain⟨rfl,rfl⟩:=he;rw[aq.sW];refine⟨.int .i64 n,w,?_,h,Step.refl _ _,.atom _ rfl⟩;simp[Builtin.copy_,eY hu,hlen,Kc,kP ea,VR,goInt]
       |some a=>
        have l3:a.spot=none:=by
         cases q:a.spot with
         |none=>rfl
         |some _=>simp[q] at he
        obtain⟨id,off,L,fV,ej,rfl,bB,rfl,aj,_,_⟩:=aq.vN (.inl l3);simp only at he;cases nv:cells.all ff with
        |false=>rw[nv] at he;simp at he
        |true=>
         rw[nv] at he;simp only[ov,dB] at he;cases dR:se H id off cells with
         |none=>rw[dR] at he;simp at he
         |some H1=>
          rw[dR] at he;simp only[cD,dK] at he;obtain⟨rfl,rfl⟩:=he;obtain⟨bn,bO,bA,cU⟩:=JB h bB bH dR;refine⟨.int .i64 n,bn,?_,bA,cU,.atom _ rfl⟩;have ai6:(storeCells ⟨L.r,fV,none⟩ cells').run P w=.ok () bn:=by
            by_cases aO:0<uU
            ·rw[aj aO];exact bO
            ·have hG:n=0:=by rw[<-Kc];have:uU=0:=by omega
                             rw[this];exact Nat.min_zero _
             have:cells=[]:=by
              subst hG;cases s with
              |slice b l c=>cases b with
               |none=>simp[jV] at aM;exact aM
               |some b=>
                simp[jV] at aM;exact aM
              |string s=>simp[jV,takeN] at aM;exact aM
              |_=>simp[rq] at aD
             subst this;have:=bH.k5;subst this;simp only[storeCells] at bO ⊢;exact bO
          simp[Builtin.copy_,eY hu,hlen,Kc,kP ea,VR,goInt,ai6]
   |_=>simp at he
  |_=>simp at he
theorem afp(h:cd P B w0 μ H w){t dH:TypeId}{x dP v:Value}(aq:bu μ x dP)(he:NE P H t x=some (v,H')):
 ∃v' bn,(Builtin.clear_ #[t] dH #[dP]).run P w=.ok v' bn/\cd P B w0 μ H' bn/\Step μ μ H H'/\bu μ v v':=by
 have PS:bu μ (.tuple #[]) (.tuple #[]):=.tuple _ _ rfl (fun i v v' q=>by simp at q);unfold NE at he;split at he
 ·rename_i d l c hu;simp only[cD,dK] at he;obtain⟨rfl,rfl⟩:=he;rw[aq.sW];exact⟨.tuple #[],w,by simp[Builtin.clear_,eY hu],h,Step.refl _ _,PS⟩
 ·rename_i d a c hu;simp only[cD,dK] at he;obtain⟨rfl,rfl⟩:=he;obtain⟨bV,ej,rfl⟩:=aq.zo;exact⟨.tuple #[],w,by simp[Builtin.clear_,eY hu],h,Step.refl _ _,PS⟩
 ·rename_i elem a n c hu;split at he
  ·rename_i z l3 aL;cases fa:plain z with
   |false=>rw[fa] at he;cases he
   |true=>
    rw[fa,cv] at he;split at he
    ·rename_i H1 dR;simp only[cD,dK] at he;obtain⟨rfl,rfl⟩:=he;obtain⟨id,off,L,fV,ej,rfl,bB,rfl,aj,_,_⟩:=aq.vN (.inl l3);have aj:=aj (Nat.succ_pos n);subst aj;have sF:ca μ z.cells.toList z.cells.toList:=(pN fa).cells;have wS:ca μ (fM z.cells.toList (n+1)) (fM z.cells.toList (n+1)):=ca.D2 fun v az=>by
      exact Im (p:=fun v=>bu μ v v) az (fun u hu=>by
       obtain⟨i,ar⟩:=zJ.1 hu;exact sF.2 i u u ar ar)
     obtain⟨bn,bO,bA,cU⟩:=JB h bB wS dR;refine⟨.tuple #[],bn,?_,bA,cU,PS⟩;have gD:=Ip z.cells.toList (n+1);have e:(Builtin.zeroCells z.cells (n+1)).toList=fM z.cells.toList (n+1):=by
      have:Builtin.zeroCells z.cells (n+1)=(fM z.cells.toList (n+1)).toArray:=by
       rw[<-gD];simp[Builtin.zeroCells]
      rw[this]
     simp[Builtin.clear_,eY hu,vT aL,e,bO]
    ·cases he
  ·cases he
 ·cases he
theorem amG:∀{g9:List Field} {ps:List (Nat×Nat)},places P g9=some ps->ps.length=g9.length/\∀w,(g9.mapM (fun f=>Prod.mk f.offset <$> sizeOf f.type):Sem (List (Nat×Nat))).run P w=.ok ps w:=by
 intro g9;induction g9 with
 |nil=>intro ps h;simp[places] at h;subst h;exact⟨rfl,fun w=>by simp⟩
 |cons f g9 aZ=>
  intro ps h;simp only[places] at h;cases ag:eV P f.type with
  |none=>rw[ag] at h;simp at h
  |some n=>
   rw[ag] at h;cases ap:places P g9 with
   |none=>rw[ap] at h;simp at h
   |some r=>
    rw[ap] at h;simp only[cD] at h;subst h;obtain⟨a,b⟩:=aZ ap;refine⟨by simp[a],fun w=>?_⟩;simp[S1,kP ag,b]
theorem af6(vs:List Value):∀(c:Array Value) (off k:Nat),(vs.zipIdx k).foldl (fun cs (x:Value×Nat)=>cs.setIfInBounds (off+x.2) x.1) c=qI c (off+k) vs:=by
 induction vs with
 |nil=>intro c off k;rfl
 |cons v vs aZ=>intro c off k;simp only[List.zipIdx_cons,IH,qI];rw[aZ];congr 1
theorem aob{off:Nat}{cells vs M7:List Value}(h:gw off cells vs=some M7):qI cells.toArray off vs=M7.toArray:=by
 obtain⟨aC,aW,cw⟩:=RN h;apply El
 intro i;rw[LI _ _ _ _ (by simpa using aW)];have:=cw i;simp only[abn];rw[this]
theorem aod{off:Nat}{cells cells' vs nf r:List Value}(aJ:ca μ cells cells')(az:ca μ vs nf)(h:gw off cells vs=some r):∃cW,gw off cells' nf=some cW/\ca μ r cW:=by
 induction off generalizing cells cells' r with
 |zero=>
  induction vs generalizing cells cells' nf r with
  |nil=>
   have:=az.k5;subst this;simp[gw] at h;subst h;exact⟨cells',by simp[gw],aJ⟩
  |cons v vs aZ=>
   obtain⟨v',lJ,rfl,ad,af⟩:=az.jH;cases cells with
   |nil=>simp[gw] at h
   |cons c cs=>
    obtain⟨c',cN,rfl,ck,ch⟩:=aJ.jH;simp only[gw] at h ⊢;cases ag:gw 0 cs vs with
    |none=>rw[ag] at h;simp at h
    |some ki=>
     rw[ag] at h;simp only[cD] at h;subst h;obtain⟨cW,aC,aW⟩:=aZ af ch ag;rw[aC];exact⟨v'::cW,rfl,ca.cons ad aW⟩
 |succ n aZ=>
  cases cells with
  |nil=>simp[gw] at h
  |cons c cs=>
   obtain⟨c',cN,rfl,ck,ch⟩:=aJ.jH;simp only[gw] at h ⊢;cases ag:gw n cs vs with
   |none=>rw[ag] at h;simp at h
   |some ki=>
    rw[ag] at h;simp only[cD] at h;subst h;obtain⟨cW,aC,aW⟩:=aZ ch ag;rw[aC];exact⟨c'::cW,rfl,ca.cons ck aW⟩
def wa(μ:b5)(l l':List (Nat×Value)):Prop:=l.length=l'.length/\∀(i:Nat) p h8,l[i]?=some p->l'[i]?=some h8->p.1=h8.1/\bu μ p.2 h8.2
theorem wa.jH{p:Nat×Value}{l m:List (Nat×Value)}(h:wa μ (p::l) m):∃v' l',m=(p.1,v')::l'/\bu μ p.2 v'/\wa μ l l':=by
 cases m with
 |nil=>have:=h.1;simp at this
 |cons q l'=>
  obtain⟨a,b⟩:=h.2 0 p q rfl rfl;refine⟨q.2,l',by rw[a],b,by have:=h.1;simpa using this,fun i x y ab aB=>h.2 (i+1) x y (by simpa using ab) (by simpa using aB)⟩
theorem JE{place:Nat->Option (Nat×Nat)}:∀{parts mL:List (Nat×Value)} {cells cells' r:List Value},wa μ parts mL->ca μ cells cells'->nr place cells parts=some r->
 ∃cW,Instr.fill place cells'.toArray mL=some cW.toArray/\ca μ r cW:=by
 intro parts;induction parts with
 |nil=>
  intro mL cells cells' r ap aJ he;have:mL=[]:=zH.1 (by have:=ap.1;simpa using this.symm);subst this;simp[nr] at he;subst he;exact⟨cells',rfl,aJ⟩
 |cons p parts aZ=>
  intro mL cells cells' r ap aJ he;obtain⟨v',l',rfl,ad,af⟩:=ap.jH;obtain⟨i,v⟩:=p;simp only[nr] at he;cases fa:place i with
  |none=>rw[fa] at he;simp at he
  |some q=>
   obtain⟨off,size⟩:=q;rw[fa] at he;simp only at he;cases ak:Nat.beq v.cells.toList.length size with
   |false=>rw[ak] at he;simp at he
   |true=>
    rw[ak,cv] at he;have ak:=eC ak;cases ag:gw off cells v.cells.toList with
    |none=>rw[ag] at he;simp at he
    |some M7=>
     rw[ag] at he;simp only at he;have az:=ad.cells;obtain⟨acV,s1,s2⟩:=aod aJ az ag;obtain⟨cW,a,b⟩:=aZ af s2 he;refine⟨cW,?_,b⟩;obtain⟨aC,aW,cw⟩:=RN s1;have lA:=az.1;have aL:v'.cells.size=size:=by simp at lA ak;omega
     have gD:v'.cells.toList.length=v'.cells.size:=by simp
     have aia:(v'.cells.zipIdx.foldl (fun cs (x:Value×Nat)=>cs.setIfInBounds (off+x.2) x.1) cells'.toArray)=acV.toArray:=by
      rw[<-Array.foldl_toList,Array.toList_zipIdx,af6,iI];exact aob s1
     have agK:¬(v'.cells.size≠size):=by omega
     have agL:¬(off+v'.cells.size>cells'.toArray.size):=by
      simp only[S9];rw[<-gD];omega
     simp only[Instr.fill,fa];rw[bd (by simp only[x6,Jt];exact not_or.2 ⟨agK,agL⟩),aia];exact a
theorem afn{t:TypeId}{parts mL:List (Nat×Value)}{v:Value}(ap:wa μ parts mL)(he:Fu P t parts=some v)(w:World):
 ∃v',(Instr.build t mL.toArray).run P w=.ok v' w/\bu μ v v':=by
 unfold Fu at he;cases aL:gR P t with
 |none=>rw[aL] at he;simp at he
 |some z=>
  rw[aL] at he;cases hu:P.underlying t with
  |none=>rw[hu] at he;simp at he
  |some d=>
   rw[hu] at he;have sF:plain z=true->ca μ z.cells.toList z.cells.toList:=fun q=>(pN q).cells;cases d with
   |struct fields=>
    simp only at he;cases fa:plain z with
    |false=>rw[fa] at he;simp at he
    |true=>
     rw[fa,cv] at he;cases AK:places P fields.toList with
     |none=>rw[AK] at he;simp at he
     |some ps=>
      rw[AK] at he;simp only at he;cases aM:nr (nth ps) z.cells.toList parts with
      |none=>rw[aM] at he;simp at he
      |some cells=>
       rw[aM] at he;simp only[cD] at he;subst he;obtain⟨cW,a,b⟩:=JE ap (sF fa) aM;obtain⟨_,hm⟩:=amG AK;refine⟨.agg cW.toArray,?_,bu.I9 b⟩;have aE:(fun i=>ps[i]?)=nth ps:=by funext i;rw[lH]
       have gZ:(Array.mapM (fun f=>Prod.mk f.offset <$> sizeOf f.type) fields:Sem (Array (Nat×Nat))).run P w=.ok ps.toArray w:=by
        rw[aa2];simp[hm]
       have bV:Instr.fill (fun x=>ps[x]?) z.cells mL=some cW.toArray:=by rw[aE];simpa using a
       simp[Instr.build,vT aL,eY hu,gZ,bV]
   |array len elem=>
    simp only at he;cases fa:plain z with
    |false=>rw[fa] at he;simp at he
    |true=>
     rw[fa,cv] at he;cases ag:eV P elem with
     |none=>rw[ag] at he;simp at he
     |some sz=>
      rw[ag] at he;simp only at he;cases aM:nr (fun i=>some (i*sz,sz)) z.cells.toList parts with
      |none=>rw[aM] at he;simp at he
      |some cells=>
       rw[aM] at he;simp only[cD] at he;subst he;obtain⟨cW,a,b⟩:=JE ap (sF fa) aM;refine⟨.agg cW.toArray,?_,bu.I9 b⟩;have bV:Instr.fill (fun i=>some (i*sz,sz)) z.cells mL=some cW.toArray:=by simpa using a
       simp[Instr.build,vT aL,eY hu,kP ag,bV]
   |_=>simp at he
theorem afm(h:cd P B w0 μ H w){t:TypeId}{len:Nat}{parts mL:List (Nat×Value)}{v:Value}(ap:wa μ parts mL)(he:Fv P H t len parts=some (v,H')):
 ∃v' bn bw,(Instr.buildSlice t len mL.toArray).run P w=.ok v' bn/\cd P B w0 bw H' bn/\Step μ bw H H'/\bu bw v v':=by
 unfold Fv at he;cases hu:P.underlying t with
 |none=>rw[hu] at he;simp at he
 |some d=>
  rw[hu] at he;cases d with
  |slice elem=>
   simp only at he;cases ag:eV P elem with
   |none=>rw[ag] at he;simp at he
   |some sz=>
    rw[ag] at he;cases aL:gR P elem with
    |none=>rw[aL] at he;simp at he
    |some z=>
     rw[aL] at he;simp only at he;cases aJ:(Nat.ble len 100000&&Nat.ble (len*sz) 100000&&plain z&&Nat.beq z.cells.toList.length sz) with
     |false=>rw[aJ] at he;simp at he
     |true=>
      rw[aJ,cv] at he;simp only[gI] at aJ;obtain⟨⟨⟨iq,aX⟩,aU⟩,b0⟩:=aJ;have iq:=hZ iq;have aX:=hZ aX;have b0:=eC b0;cases aM:nr (fun i=>some (i*sz,sz)) (fM z.cells.toList len) parts with
      |none=>rw[aM] at he;simp at he
      |some cells=>
       rw[aM] at he;simp only at he;cases aj:cells.all ff with
       |false=>rw[aj] at he;simp at he
       |true=>
        rw[aj,cv] at he;cases aE:tY H elem cells with
        |none=>rw[aE] at he;simp at he
        |some p=>
         obtain⟨id,H1⟩:=p;rw[aE] at he;simp only[cD,dK] at he;obtain⟨rfl,rfl⟩:=he;have sF:ca μ z.cells.toList z.cells.toList:=(pN aU).cells;have wS:ca μ (fM z.cells.toList len) (fM z.cells.toList len):=ca.D2 fun v az=>
          Im (p:=fun v=>bu μ v v) az (fun u hu=>by
           obtain⟨i,ar⟩:=zJ.1 hu;exact sF.2 i u u ar ar)
         obtain⟨cW,a,b⟩:=JE ap wS aM;obtain⟨bw,L,c1,fq,mH,mI,_⟩:=QZ h b aE;refine⟨.slice (some ⟨w.heap.size,0,none⟩) len len,_,bw,?_,c1,fq,?_⟩
         ·have gD:=Ip z.cells.toList len;have ajD:z.cells.size=sz:=by simpa using b0
          have OJ:¬(16777216<len*sz):=by omega
          rw[b0] at gD;simp only[aa3] at gD;by_cases aO:len*sz=0
          ·have AD:fM z.cells.toList len=[]:=zH.1 (by rw[Su,b0];exact aO);rw[AD] at a;have bV:Instr.fill (fun i=>some (i*sz,sz)) (Array.map (fun _=>(default:Value)) (Array.range 0)) mL=some cW.toArray:=by
            have jC:Array.map (fun _:Nat=>(default:Value)) (Array.range 0)=#[]:=by simp
            rw[jC];exact a
           simp[Instr.buildSlice,eY hu,kP ag,aO,bV,newRow,newObj,Sem.run]
          ·have bV:Instr.fill (fun i=>some (i*sz,sz)) ((Array.range (len*sz)).map fun i=>z.cells[i % z.cells.size]!) mL=some cW.toArray:=by rw[gD];exact a
           simp[Instr.buildSlice,eY hu,kP ag,OJ,aO,vT aL,bV,newRow,newObj,Sem.run]
         ·rw[<-mI];refine .nJ id 0 len len L mH ?_;have:(100000:Nat)<cQ:=by decide
          omega
  |_=>simp at he
end
end
end Go.Cre
namespace Go.Cre
noncomputable section
open Go.RowKit
section
variable {P:Program}{B:Nat->Prop}{w0 w:World}{μ:b5}{H H':aw}
theorem UT{α:Type}{s:Sem α}{a:α}(h:fc P s=some a)(w:World):s.run P w=.ok a w:=by
 induction s generalizing w with
 |pure b=>simp[fc] at h;subst h;rfl
 |program k aZ=>exact aZ P (by simpa[fc] using h) w
 |mark m k aZ=>exact aZ (by simpa[fc] using h) w
 |_=>simp[fc] at h
theorem cd.aaO(h:cd P B w0 μ H w){id:Nat}{L:Loc}{b b':fs}{o':Obj}(bB:μ id=some L)(aF:H.bU<=id)(hm:H.mem.get id=some b)(gr:∀c e o f z s,b≠.row c e o f z s)(aq:b≠.dead)
 (hu:H.upd id b'=some H')(ql:∀c e o f z s,b'≠.row c e o f z s)(ak:j5 P μ L b' o'):
 cd P B w0 μ H' {w with heap:=w.heap.setIfInBounds L.r o'}/\Step μ μ H H':=by
 obtain⟨u1,cm,xV,BH,sY⟩:=aw.xX hu;have vi:H.mem.get id≠some .dead:=by rw[hm];intro q;injection q with q;exact aq q
 refine h.write bB aF vi u1 xV BH (by rw[sY];simp) (fun x ab=>.inl (by rw[sY,bd ab])) ?_ (fun f l aD=>.inl (by rw[cm];exact aD)) (fun f l aD=>.inl (by rw[<-cm];exact aD))
  (fun c e f z s q=>absurd q (ql _ _ _ _ _ _)) (fun q=>by
   rw[hm] at q;cases b with
   |row c e o f z s=>exact absurd rfl (gr _ _ _ _ _ _)
   |_=>simp[kw] at q) ak
 intro x b8 ab u6 av;rcases h.sep id x L b8 (Ne.symm ab) bB u6 av.symm with d|d|⟨f',l,⟨bH,aC,du,LD,q⟩,_⟩
 ·exact absurd d vi
 ·rw[sY,bd ab];exact d
 ·rw[hm] at q;injection q with q;exact absurd q (gr _ _ _ _ _ _)
end
end
end Go.Cre
namespace Go.Cre
noncomputable section
open Go.RowKit
section
variable {P:Program}{B:Nat->Prop}{w0 w:World}{μ:b5}{H H':aw}
theorem afP{x dP v:Value}{xt asserted:TypeId}{ok:Bool}(ab:bu μ x dP)(he:Cz P x asserted ok=some v)(w:World):
 ∃v',(Instr.typeAssert dP xt asserted ok).run P w=.ok v' w/\bu μ v v':=by
 unfold Cz at he;simp only at he
 have OU:∀v,(bif ok then(match gR P asserted with|some z=>bif plain z then some (Value.tuple #[z,.bool false]) else none|none=>none) else none)=some v->
  ok=true/\∃z,gR P asserted=some z/\plain z=true/\v=.tuple #[z,.bool false]:=by
  intro v az;cases ok with
  |false=>simp at az
  |true=>
   simp only[cv] at az;cases aL:gR P asserted with
   |none=>rw[aL] at az;simp at az
   |some z=>
    rw[aL] at az;simp only at az;cases ap:plain z with
    |false=>rw[ap] at az;simp at az
    |true=>rw[ap] at az;simp at az;exact⟨rfl,z,rfl,ap,az.symm⟩
 have Gq:∀z,plain z=true->bu μ (.tuple #[z,.bool false]) (.tuple #[z,.bool false]):=fun z aL=>bu.R1 (ca.cons (pN aL) (ca.cons (.atom _ rfl) (ca.nil _)));have Wr:∀y mO,bu μ y mO->bu μ (bif ok then .tuple #[y,.bool true] else y) (if ok then .tuple #[mO,.bool true] else mO):=fun y mO aB=>by
  cases ok with
  |true=>exact bu.R1 (ca.cons aB (ca.cons (.atom _ rfl) (ca.nil _)))
  |false=>exact aB
 cases hu:P.underlying asserted with
 |none=>rw[hu] at he;simp at he
 |some d=>
  rw[hu] at he;cases x with
  |nilIface=>
   rw[ab.Hh];have az:(bif ok then(match gR P asserted with|some z=>bif plain z then some (Value.tuple #[z,.bool false]) else none|none=>none) else none)=some v:=by
    cases d<;>exact he
   obtain⟨rfl,z,aL,ap,rfl⟩:=OU v az;refine⟨_,?_,Gq z ap⟩;cases d<;>simp[Instr.typeAssert,eY hu,vT aL]
  |iface t y=>
   obtain⟨mO,rfl,aB⟩:=ab.xg;by_cases ar:∃want,d=.interface want
   ·obtain⟨want,rfl⟩:=ar;simp only at he;cases J4:P.info? t with
    |none=>rw[J4] at he;simp at he
    |some i=>
     rw[J4] at he;simp only at he;cases rh:Instr.missingMethod want i.methods with
     |none=>
      rw[rh] at he;simp only[cD] at he;subst he;refine⟨_,?_,Wr _ _ (.iface t y mO aB)⟩;simp[Instr.typeAssert,eY hu,typeInfo,J4,rh]
     |some Hi=>
      rw[rh] at he;obtain⟨rfl,z,aL,ap,rfl⟩:=OU v he;refine⟨_,?_,Gq z ap⟩;simp[Instr.typeAssert,eY hu,typeInfo,J4,rh,vT aL]
   ·have qm:(bif Nat.beq t asserted then some (bif ok then .tuple #[y,.bool true] else y) else(bif ok then(match gR P asserted with|some z=>bif plain z then some (Value.tuple #[z,.bool false]) else none|none=>none) else none))=some v:=by
     cases d<;>first|exact he|exact absurd ⟨_,rfl⟩ ar
    cases ak:Nat.beq t asserted with
    |true=>
     rw[ak,cv] at qm;simp only[cD] at qm;subst qm;have:=eC ak;subst this;refine⟨_,?_,Wr _ _ aB⟩;cases d<;>first|exact absurd ⟨_,rfl⟩ ar|simp[Instr.typeAssert,eY hu]
    |false=>
     rw[ak,dB] at qm;obtain⟨rfl,z,aL,ap,rfl⟩:=OU v qm;have eh:t≠asserted:=fun e=>by subst e;simp at ak
     refine⟨_,?_,Gq z ap⟩;cases d<;>first|exact absurd ⟨_,rfl⟩ ar|simp[Instr.typeAssert,eY hu,eh,vT aL]
  |_=>cases d<;>simp at he
theorem afu{t:TypeId}{x dP y mO:Value}{r:Bool}(ab:bu μ x dP)(aB:bu μ y mO)(he:wB P t x y=some r)(d:Nat)(w:World):(Op.equalIn (d+1) t dP mO).run P w=.ok r w:=by
 unfold wB at he;cases hu:P.underlying t with
 |none=>rw[hu] at he;simp at he
 |some rI=>
  rw[hu] at he;cases rI with
  |pointer elem=>
   cases x with
   |pointer a=>
    cases y with
    |pointer b=>
     cases a with
     |none=>
      rw[ab.DX];cases b with
      |none=>rw[aB.DX];simp at he;subst he;simp[Op.equalIn,eY hu]
      |some b=>obtain⟨id,off,L,rfl,bB,rfl⟩:=aB.oZ;simp at he;subst he;simp[Op.equalIn,eY hu]
     |some a=>
      obtain⟨id,off,L,rfl,bB,rfl⟩:=ab.oZ;cases b with
      |none=>rw[aB.DX];simp at he;subst he;simp[Op.equalIn,eY hu]
      |some b=>
       obtain⟨mg,fV,b8,rfl,u6,rfl⟩:=aB.oZ;simp only at he;cases ag:eV P elem with
       |none=>rw[ag] at he;simp at he
       |some n=>
        rw[ag] at he;cases n with
        |zero=>simp at he
        |succ n=>
         simp only at he;cases ak:Nat.beq id mg with
         |false=>rw[ak] at he;simp at he
         |true=>
          rw[ak,cv] at he;have:=eC ak;subst this;rw[bB] at u6;injection u6 with u6;subst u6
          simp only[cD] at he;subst he;have Aw:(({block:=id,off:=off}:Addr)=={block:=id,off:=fV})=(({block:=L.r,off:=off}:Addr)=={block:=L.r,off:=fV}):=by
           rw[s6];simp
          rw[Aw];simp[Op.equalIn,eY hu,kP ag,sameAddr]
    |_=>simp at he
   |_=>simp at he
  |slice elem=>
   cases x with
   |slice a l c=>
    cases y with
    |slice b l' c'=>
     cases a with
     |none=>
      rw[ab.sW];cases b with
      |none=>rw[aB.sW];simp at he;subst he;simp[Op.equalIn,eY hu]
      |some b=>obtain⟨_,_,rfl⟩:=aB.zo;simp at he;subst he;simp[Op.equalIn,eY hu]
     |some a=>
      obtain⟨_,_,rfl⟩:=ab.zo;cases b with
      |none=>rw[aB.sW];simp at he;subst he;simp[Op.equalIn,eY hu]
      |some b=>simp at he
    |_=>simp at he
   |_=>simp at he
  |map k e=>
   cases x with
   |map a=>
    cases y with
    |map b=>
     cases a with
     |none=>
      rw[ab.G6];cases b with
      |none=>rw[aB.G6];simp at he;subst he;simp[Op.equalIn,eY hu]
      |some b=>obtain⟨_,_,rfl⟩:=aB.G5;simp at he;subst he;simp[Op.equalIn,eY hu]
     |some a=>
      obtain⟨_,_,rfl⟩:=ab.G5;cases b with
      |none=>rw[aB.G6];simp at he;subst he;simp[Op.equalIn,eY hu]
      |some b=>simp at he
    |_=>simp at he
   |_=>simp at he
  |func ps rs v=>
   cases x with
   |nilFunc=>
    rw[ab.K1];cases y with
    |func fn a b=>
     simp at he;subst he;cases aB with
     |atom _ q=>simp[isAtom] at q
     |func=>simp[Op.equalIn,eY hu]
     |yield=>simp[Op.equalIn,eY hu]
    |_=>simp at he
   |func fn a b=>
    cases y with
    |nilFunc=>
     rw[aB.K1];simp at he;subst he;cases ab with
     |atom _ q=>simp[isAtom] at q
     |func=>simp[Op.equalIn,eY hu]
     |yield=>simp[Op.equalIn,eY hu]
    |_=>simp at he
   |_=>simp at he
  |interface KS=>
   cases x with
   |nilIface=>
    rw[ab.Hh];cases y with
    |iface t y=>obtain⟨_,rfl,_⟩:=aB.xg;simp at he;subst he;simp[Op.equalIn,eY hu]
    |_=>simp at he
   |iface t x=>
    obtain⟨_,rfl,_⟩:=ab.xg;cases y with
    |nilIface=>rw[aB.Hh];simp at he;subst he;simp[Op.equalIn,eY hu]
    |_=>simp at he
   |_=>simp at he
  |_=>simp at he
theorem ZD{r:Nat}{c:Array Value}{e:TypeId}{f:Nat×Nat}(h:w.heap[r]?=some (.cells c e f)):(shape r).run P w=.ok (some (e,c.size)) w:=by
 simp[shape,Sem.run,World.shape?,h]
theorem aaG{r:Nat}{c:Array Value}{e:TypeId}{f:Nat×Nat}(h:w.heap[r]?=some (.cells c e f)):(viewAt r).run P w=.ok none w:=by
 simp[viewAt,ZD h]
theorem adr{r:Nat}{c:Array Value}{e:TypeId}{f:Nat×Nat}(h:w.heap[r]?=some (.cells c e f)):(cellsIn r).run P w=.ok (some c.size) w:=by
 simp[cellsIn,ZD h]
theorem afq(h:cd P B w0 μ H w){src dst:TypeId}{x dP v:Value}(ab:bu μ x dP)(he:NF P H src dst x=some v):
 ∃v',(convert src dst dP).run P w=.ok v' w/\bu μ v v':=by
 unfold NF at he;cases hu:P.underlying src with
 |none=>rw[hu] at he;simp at he
 |some ds=>
  rw[hu] at he;cases aq:P.underlying dst with
  |none=>rw[aq] at he;simp at he
  |some z9=>
   rw[aq] at he;cases ds with
   |pointer t=>
    cases z9 with
    |unsafePointer=>
     cases x with
     |pointer a=>
      cases a with
      |none=>simp at he
      |some a=>
       obtain⟨id,off,L,rfl,bB,rfl⟩:=ab.oZ;simp only at he;cases ag:eV P t with
       |none=>rw[ag] at he;simp at he
       |some n=>
        rw[ag] at he;cases n with
        |zero=>simp at he
        |succ n=>
         cases hm:H.mem.get id with
         |none=>rw[hm] at he;simp at he
         |some b=>
          rw[hm] at he;cases b with
          |row cells el opn bP ey sh=>
           simp only at he;cases ak:Nat.blt off cells.length with
           |false=>rw[ak] at he;simp at he
           |true=>
            rw[ak,cv] at he;simp only[cD] at he;subst he;have ak:off<cells.length:=hZ ak;obtain⟨c,f,ck,ch,c6,gg,gh,hg,gW⟩:=h.row bB hm;have cA:¬(c.size<=off):=by omega
            refine⟨_,?_,ab⟩;simp[convert,eY hu,eY aq,Conv.unsafePointer,Conv.seenAt,aaG ck,adr ck,cA,kP ag]
          |_=>simp at he
     |_=>simp at he
    |_=>simp at he
   |unsafePointer=>
    cases z9 with
    |pointer u=>
     cases x with
     |pointer a=>
      cases a with
      |none=>simp at he
      |some a=>
       obtain⟨id,off,L,rfl,bB,rfl⟩:=ab.oZ;simp only at he;cases ag:eV P u with
       |none=>rw[ag] at he;simp at he
       |some n=>
        rw[ag] at he;cases n with
        |zero=>simp at he
        |succ n=>
         cases hm:H.mem.get id with
         |none=>rw[hm] at he;simp at he
         |some b=>
          rw[hm] at he;cases b with
          |row cells el opn bP ey sh=>
           cases opn with
           |true=>simp at he
           |false=>
            simp only at he;cases ak:liesAt P P.depth el (cells.length / P.cellsOf el) off u 1 with
            |false=>rw[ak] at he;simp at he
            |true=>
             rw[ak,cv] at he;simp only[cD] at he;subst he;obtain⟨c,f,ck,ch,c6,gg,gh,hg,gW⟩:=h.row bB hm;have lY:c.size=cells.length:=by rw[ch,gh rfl]
             have mf:w.shape? L.r=some (el,c.size):=by simp[World.shape?,ck]
             refine⟨_,?_,ab⟩;simp[convert,eY hu,eY aq,Conv.unsafePointer,Conv.seenAt,aaG ck,kP ag,variablesAt,mf,lY,ak]
          |_=>simp at he
     |_=>simp at he
    |_=>simp at he
   |_=>cases z9<;>simp at he
end
end
end Go.Cre

/- A part of the proof of TableBounds. -/
import Derived.Test.YtccpobhlccjkiaaGreatDoorCab
import Derived.Orders
import Derived.Laws.BytesString
import Derived.Laws.BytesArg
import Derived.Lib.UnsafeStr
import Derived.Laws.IdiomStrings
import Derived.Laws.BitsLemmas
set_option linter.defProp false
set_option linter.unusedVariables false
set_option linter.unusedSimpArgs false
namespace Go.Cre
noncomputable section
open Go.RowKit
section
variable {P:Program}{B:Nat->Prop}{w0 w:World}{μ:bU}{H H':aw}
def aBm(z:Array Value)(n:Nat):(Builtin.zeroCells z n).size=n*z.size:=by simp[Builtin.zeroCells]
def Sl{a b bD b':List Value}{elem:TypeId}{z:Value}{sz J7 cap f ek r:Nat}{sh:Bool}{bh:bU}(aI:bW bh a bD)(ak:bW bh b b')(en:P.cellsOf elem=sz)(aR:z.cells.toList.length=sz)(aj:(a++b).length=J7*sz)(oQ:J7<=cap):
 kP P bh ⟨r,cap*sz,sz⟩ (.row (a++b) elem true f ek sh) (.cells (bD.toArray++(b'.toArray++Builtin.zeroCells z.cells (cap -J7))) elem):=by
 have ax:=aI.append ak;have s3:z.cells.size=sz:=by simpa using aR
 have aqq:(bD.toArray++(b'.toArray++Builtin.zeroCells z.cells (cap -J7)))=(bD++b').toArray++Builtin.zeroCells z.cells (cap -J7):=by
  apply r9;simp
 rw[aqq];refine⟨I,?_,en,?_,(fun h=>by cases h),fun i v v' a b=>?_,⟨fun off _ ae ag=>by simp at ag,fun _=>.inl I⟩⟩
 ·rw[Array.size_append,aBm,s3];simp only[X0];rw[<-ax.1,aj,<-g'];congr 1;omega
 ·show(a++b).length<=cap*sz;rw[aj];exact hJ _ oQ
 ·refine ax.2 i v v' a ?_;have hi:i<(bD++b').length:=by
   have:=(dO.1 a).1;have:=ax.1;omega
  rw[ahZ (by simpa using hi)] at b;simpa using b
def YR{a b:Nat}(h:Nat.blt a b=false):b<=a:=by
 rcases ha a b with q|q
 ·have:=nc q;unfold Nat.blt at h;simp_all
 ·exact q
def am6(h:bZ P B w0 μ H w){ts iA eE:TypeId}{e0:TypeDesc}{s de x dy v:Value}(hs:bk μ s de)(U:bk μ x dy)(lN:P.underlying iA=some e0)(yQ:∀k,e0≠.int k)(he:rB P H ts s x=some (v,H')):
 ∃v' a' bh,(Builtin.append_ #[ts,iA] eE #[de,dy]).run P w=.ok v' a'/\bZ P B w0 bh H' a'/\Step μ bh H H'/\bk bh v v':=by
 unfold rB at he;cases hu:P.underlying ts with
 |none=>rw[hu] at he;simp at he
 |some d=>
  rw[hu] at he;cases d with
  |slice elem=>
   cases s with
   |slice base dm jn=>
    simp only at he;cases en:e6 P elem with
    |none=>rw[en] at he;simp at he
    |some sz=>
    rw[en] at he;cases iR:wL P elem with
    |none=>rw[iR] at he;simp at he
    |some jR=>
    rw[iR] at he;cases aR:h2 P elem with
    |none=>rw[aR] at he;simp at he
    |some z=>
    rw[aR] at he;cases aA:s4 x with
    |none=>rw[aA] at he;simp at he
    |some n=>
    rw[aA] at he;simp only at he;cases w8:(Nat.ble (dm+n) 1000000&&Nat.ble jR 1000000&&Nat.beq z.cells.toList.length sz) with
    |false=>rw[w8] at he;simp at he
    |true=>
    rw[w8] at he;simp only[ow,dQ] at he;simp only[gQ] at w8;obtain⟨⟨aN,aH⟩,bo⟩:=w8;have aN:=iE aN;have aH:=iE aH;have bo:=eM bo;cases ay:kB H sz n x with
    |none=>rw[ay] at he;simp at he
    |some new=>
    rw[ay] at he;simp only at he;cases hM:(new.all fx&&Nat.beq new.length (n*sz)) with
    |false=>rw[hM] at he;simp at he
    |true=>
    rw[hM] at he;simp only[ow,dQ] at he;simp only[gQ] at hM;have db:=eM hM.2;obtain⟨s6,bH,c2⟩:=Mv h U aA (b2 _) ay;have hlen:=adh (P:=P) U aA;obtain⟨i,hi,rfl⟩:=QW iR
    have s3:i.zero=some z:=by simpa[h2,hi] using aR
    have tU:i.size=sz:=by simpa[e6,hi] using en
    have yY:(Builtin.firstCells i.size n dy).run P w=.ok s6.toArray w:=by rw[tU];exact c2 w.drawn
    have eF:(cK:Nat)=1208925819614629174706176:=rfl;by_cases Fh:jn=cK
    ·subst Fh;rw[ix,cd] at he;cases base with
     |none=>simp at he
     |some a=>
      obtain⟨id,off,L,gM,ew,rfl,bi,rfl,al,_,vp⟩:=hs.xS (.inr (.inr (by decide)));simp only at he;cases hm:H.mem.get id with
      |none=>rw[hm] at he;simp at he
      |some b=>
       rw[hm] at he;cases b with
       |row cells el opn bF ek sh=>
        cases opn with
        |false=>simp at he
        |true=>
        simp only at he;cases qJ:(Nat.beq el elem&&!Nat.blt id H.bJ&&Nat.ble ek (off+dm*sz)) with
        |false=>rw[qJ] at he;simp at he
        |true=>
        rw[qJ] at he;simp only[ow,dQ] at he;simp only[gQ,tj] at qJ;obtain⟨⟨dc,c9⟩,fI⟩:=qJ;have dc:=eM dc;subst dc;have c9:=YR c9;have fI:=iE fI;obtain⟨c,f,ca,b7,cw,f',gJ,hL,hd⟩:=h.row bi hm;have MX:L.sz=sz:=by rw[<-cw];exact Wq en
        cases kH:Nat.beq n 0 with
        |true=>
         rw[kH,cd] at he;simp only[cb,c8] at he;obtain⟨rfl,rfl⟩:=he;have kH:=eM kH;subst kH;have TU:s6=[]:=by
          have:=bH.1;rw[db] at this;exact zV.1 (by omega)
         subst TU;refine⟨_,w,μ,?_,h,Step.refl _ _,hs⟩;have hle:dm+0<=ew:=by
          rcases vp with⟨bb,_⟩|⟨_,bt,_⟩|⟨_,bt,cE⟩<;>omega
         exact Pb ts iA eE el e0 i hu lN yQ hi (some ⟨L.r,gM,none⟩) dm ew 0 dy [] w hlen yY hle (fun a _=>rfl) (fun q=>by cases q)
        |false=>
        rw[kH,dQ] at he;have aEf:0<n:=by
         rcases oC n with q|q
         ·subst q;simp at kH
         ·exact q
        cases Jh:Nat.beq off 0 with
        |false=>rw[Jh] at he;simp at he
        |true=>
        rw[Jh] at he;simp only[ow,dQ] at he;have Jh:=eM Jh;subst Jh;cases hold:takeN (dm*sz) cells with
        |none=>rw[hold] at he;simp at he
        |some ed=>
        rw[hold] at he;simp only at he;obtain⟨CQ,CR,avj⟩:=Gm hold;cases jd:H.bF.get bF with
        |none=>rw[jd] at he;simp at he
        |some l=>
        rw[jd] at he;simp only at he;cases E2:Af H id l with
        |none=>rw[E2] at he;simp at he
        |some p=>
        obtain⟨eR,H1⟩:=p;rw[E2] at he;simp only at he;obtain⟨aX,aT,bd,cm,fz,kh,rX,ua,UR,pre,aEN,ata⟩:=alM E2;have TO:∀x,H1.mem.get x=H.mem.get x\/(H1.mem.get x=some .dead/\(lr (H.mem.get x)=true\/H.mem.get x=some .dead)):=fun x=>by
         rcases UR x with q|q
         ·exact .inl q
         ·exact .inr ⟨q.1,(h.mv bF l x jd q.2).2⟩
        obtain⟨ID,Ca⟩:=h.kill (H':=H1) aX bd cm TO (fun f l aj=>⟨l,by rw[aT];exact aj,iC _,fun x a b=>absurd a b⟩) (fun f l aj=>⟨l,by rw[<-aT];exact aj,iC _⟩)
        --vY ed members azC stay YD no U1 aFR W7 is kept
        have aq3:∀y∈eR,∀c e f z s,H1.mem.get y=some (.row c e true f z s)->c.length<=cells.length:=fun y an c e f z s q=>by
         have Um:=ID.wZ bF l (by rw[aT];exact jd);have mc:=Um.sublist fz;rw[ata] at mc an;rcases fs.1 an with rfl|an
         ·rw[rX,hm] at q;injection q with q;injection q with q;subst q;exact b2 _
         ·exact(List.pairwise_cons.1 mc).1 y an _ _ _ _ _ _ _ _ _ _ (by rw[rX];exact hm) q
        --vY second cut
        cases b3:HT H1 eR (Nat.beq cells.length (dm*sz)) with
        |none=>rw[b3] at he;simp at he
        |some p=>
        obtain⟨eo,bT⟩:=p;rw[b3] at he;simp only at he;unfold HT at b3
        have vf:bZ P B w0 μ bT w/\Step μ μ H bT/\bT.ao=H.ao/\bT.cC=H.cC/\bT.bJ=H.bJ/\bT.bF.get bF=some l/\eo.Sublist l/\(∀x,x∈l->x∉eo->bT.mem.get x=some .dead)/\
         (∀y∈eo,∀c e f z s,bT.mem.get y=some (.row c e true f z s)->c.length<=dm*sz)/\(∀x,bT.mem.get x=H.mem.get x\/bT.mem.get x=some .dead):=by
         cases ak:Nat.beq cells.length (dm*sz) with
         |true=>
          rw[ak,cd] at b3;simp only[cb,c8] at b3;obtain⟨rfl,rfl⟩:=b3;have ak:=eM ak;exact⟨ID,Ca,aX,bd,cm,by rw[aT];exact jd,fz,ua,fun y an c e f z s q=>by have:=aq3 y an c e f z s q;omega,fun x=>(TO x).imp (fun q=>q) And.left⟩
         |false=>
          rw[ak,dQ] at b3;cases hk:uc H1 H1.ao eR with
          |none=>rw[hk] at b3;simp at b3
          |some Lb=>
           rw[hk] at b3;simp only[cb,c8] at b3;obtain⟨rfl,rfl⟩:=b3;obtain⟨ba,br,bG,cD,cN,ef⟩:=N2 hk;have qL:∀x,x∈eR->Lb.mem.get x=some .dead:=fun x U=>cN x U (fun e=>by
            have:=(ID.mv bF l x (by rw[aT];exact jd) (fz.mem U)).1;omega)
           have TP:∀x,Lb.mem.get x=H1.mem.get x\/(Lb.mem.get x=some .dead/\(lr (H1.mem.get x)=true\/H1.mem.get x=some .dead)):=fun x=>by
            by_cases U:x∈eR
            ·exact .inr ⟨qL x U,(ID.mv bF l x (by rw[aT];exact jd) (fz.mem U)).2⟩
            ·exact .inl (ef x (.inl U))
           obtain⟨vf,vj⟩:=ID.kill (H':=Lb) ba bG cD TP (fun f l aj=>⟨l,by rw[br];exact aj,iC _,fun x a b=>absurd a b⟩) (fun f l aj=>⟨l,by rw[<-br];exact aj,iC _⟩);refine⟨vf,Ca.trans vj,by omega,by omega,by omega,by rw[br,aT];exact jd,kt _,fun x U _=>?_,fun y an=>by simp at an,fun x=>?_⟩
           ·by_cases iS:x∈eR
            ·exact qL x iS
            ·have:=ua x U iS;rcases TP x with q|q
             ·rw[q];exact this
             ·exact q.1
           ·rcases TP x with q|q
            ·rw[q];exact(TO x).imp (fun q=>q) And.left
            ·exact .inr q.1
        obtain⟨vf,vj,cz,cX,lO,o0,vE,Og,adA,adB⟩:=vf;cases rP:bT.td bF (bT.ao::eo) with
        |none=>rw[rP] at he;simp at he
        |some fL=>
        rw[rP] at he;simp only at he;obtain⟨s1,s2,jZ,Gh,vW⟩:=aw.Gj rP;cases TR:fL.new (.row (ed++new) el true bF ek sh) with
        |none=>rw[TR] at he;simp at he
        |some p=>
        obtain⟨auW,lc⟩:=p;rw[TR] at he;simp only[cb,c8] at he;obtain⟨rfl,rfl⟩:=he;obtain⟨rfl,t1,t2,t3,t4,t5⟩:=aw.p4 TR;have aF:lc.ao=bT.ao+1:=by omega
        have cR:∀m,lc.mem.get m=if m=bT.ao then some (.row (ed++new) el true bF ek sh) else bT.mem.get m:=fun m=>by rw[t5,s1,s2]
        have kX:∀m,lc.bF.get m=if m=bF then some (bT.ao::eo) else bT.bF.get m:=fun m=>by rw[t2,vW]
        have pW:bF<bT.cC:=by have:=h.sw _ _ _ _ _ _ hm;omega
        have Ja:(ed++new).length=(dm+n)*sz:=by rw[dv,CR,db,g']
        have y2:∀y∈eo,∀c e f z s,bT.mem.get y=some (.row c e true f z s)->c.length<=(ed++new).length:=fun y an c e f z s q=>by
         have:=adA y an c e f z s q;rw[dv,CR];omega
        --W7 is kept,aFJ
        have TX:bW μ ed (c.toList.take (dm*sz)):=by
         have:=hL.take (dm*sz);rw[<-CQ,qq,gv avj] at this;exact this
        rw[s1];rcases vp with⟨bb,_⟩|⟨_,bt,rfl,cE⟩|⟨_,rfl,rfl⟩
        ·omega
        ·--a slice with room of aEL own,or none
         by_cases oS:dm+n<=ew
         ·--in place
          rw[MX] at cE;have Cv:(dm+n)*sz<=L.N:=by
           have:=hJ sz oS;omega
          have c4:=afQ (P:=P) L.r (dm*sz) el f s6 0 c w ca (by rw[<-bH.1,db,b7];rw[g'] at Cv;omega) (fun j aW=>by
           rw[<-bH.1,db] at aW;exact aas hd (by rw[g'] at Cv;omega) (by omega)) (ajo bH hM.1)
          simp only[pc] at c4
          obtain⟨IE,yI⟩:=vf.aw2 (H':=lc) (f:=bF) (id:=id) (l:=eo) (l0:=l) (cells:=ed++new) (elem:=el) (ek:=ek) (sh:=sh) (o:=.cells c el f) (o':=.cells (r6 c (dm*sz) s6) el f) (L:=L) o0 vE Og pW bi (by omega) (h.new id L bi (by omega) (by rw[hm];intro q;cases q)) aF (by omega) (by omega) cR kX y2
           (fun y bM an ar=>by
            by_cases sM:bT.mem.get y=some .dead
            ·exact .inl sM
            ·right
             have CE:y∈l/\zc H y bF:=by
              by_cases xm:y=id
              ·subst xm;exact⟨fz.mem kh,⟨_,_,_,_,hm⟩⟩
              ·rcases h.sep id y L bM (Ne.symm xm) bi an ar.symm with d|d|⟨ck,a9,⟨bb,rA,eH,Pe,q⟩,dE,dC,_,aub⟩
               ·rw[hm] at d;cases d
               ·exact absurd ((adB y).elim (fun q=>q.trans d) (fun q=>q)) sM
               ·rw[hm] at q;injection q with q;injection q with _ _ _ q;subst q
                rw[jd] at dC;injection dC with dC;subst dC
                exact⟨aub,dE⟩
             have acI:y∈eo:=ox fun fB=>sM (Og y CE.1 fB);obtain⟨b,o,dj,ht,jx⟩:=vf.gS y bM an;have hN:bT.mem.get y=H.mem.get y:=(adB y).resolve_right sM;obtain⟨alR,BX,aBq,azr,O3⟩:=CE.2;have aFk:=dj;rw[hN,O3] at dj;injection dj with dj;subst dj
             have aD3:=adA y acI _ _ _ _ _ (hN.trans O3);refine⟨⟨alR,BX,aBq,azr,hN.trans O3⟩,acI,_,hN.trans O3,?_⟩;rw[ar,ca] at ht;injection ht with ht;subst ht
             obtain⟨eH,eQ,ml,Dz,GG,K1,K2⟩:=jx;refine⟨eH,by rw[Wu];exact eQ,ml,Dz,fun q=>(by cases q),fun j v v' a b=>?_,K2⟩;rw[Pk _ _ _ _ (by rw[<-bH.1,db,b7];rw[g'] at Cv;omega)] at b;have aW:=(dO.1 a).1;rw[aG (by omega)] at b;exact K1 j v v' a b)
           (by
            refine⟨I,by rw[Wu];exact b7,cw,by rw[Ja];exact Cv,fun q=>(by cases q),fun j v v' a b=>?_,hd⟩;rw[Pk _ _ _ _ (by rw[<-bH.1,db,b7];rw[g'] at Cv;omega)] at b;rw[XR] at a;rw[CR] at a;split at a
            ·rename_i aW;rw[aG (by omega)] at b;refine TX.2 j v v' a ?_;rw[iY,aP aW];simpa using b
            ·rename_i aW;have abP:=(dO.1 a).1;rw[aP (by rw[<-bH.1];omega)] at b;exact bH.2 _ v v' a b)
          refine⟨.slice (some ⟨L.r,0,none⟩) (dm+n) ew,_,_,?_,IE,vj.trans yI,?_⟩
          ·exact Pb ts iA eE el e0 i hu lN yQ hi (some ⟨L.r,0,none⟩) dm ew n dy s6 _ hlen yY oS (fun a q=>by
            injection q with q;subst q
            rw[Addr.so,tU,j8];exact c4) (fun q=>by cases q)
          ·exact .q9 bT.ao 0 (dm+n) ew L (bU.k9 _ _ _) oS (by rw[MX];exact cE)
         ·--it aC7
          have hE:=Wi (P:=P) (w:=w) ts iA eE el e0 i z hu lN yQ hi s3 (some ⟨L.r,0,none⟩) dm ew n dy (c.toList.take (dm*sz)) s6 hlen
           (fun gZ=>by
            rw[tU];refine run_firstCells_some (P:=P) {w with drawn:=gZ} sz dm ⟨L.r,0,none⟩ dm ew _ (by rw[<-TX.1,CR]) (fun j v aW=>?_);rw[Addr.so,j8];have:=cell_of_row (w:={w with drawn:=gZ}) ca j;rw[this];rw[iY] at aW;split at aW
            ·simpa using aW
            ·cases aW)
           (fun gZ=>by rw[tU];exact c2 gZ) (by omega) aN aH
          have ln:=grownCap_ge w (dm+n) ew el
          obtain⟨IE,yI⟩:=vf.drew.ae7 (H':=lc) (f:=bF) (l:=eo) (l0:=l) (cells:=ed++new) (elem:=el) (ek:=ek) (sh:=sh)
           (o:=.cells ((c.toList.take (dm*sz)).toArray++(s6.toArray++Builtin.zeroCells z.cells (grownCap w (dm+n) ew el -(dm+n)))) el) (L:=⟨w.heap.size,grownCap w (dm+n) ew el*sz,sz⟩) o0 vE Og pW aF (by omega) (by omega) cR kX y2 I
           (Sl (TX.mono (vf.wY _)) (bH.mono (vf.wY _)) (by rw[cw,MX]) bo Ja ln)
          refine⟨_,_,_,hE,IE,vj.trans yI,?_⟩;exact .q9 bT.ao 0 (dm+n) _ ⟨w.heap.size,grownCap w (dm+n) ew el*sz,sz⟩ (bU.k9 _ _ _) ln (by simp)
        ·--a slice aGo room
         have hE:=Wi (P:=P) (w:=w) ts iA eE el e0 i z hu lN yQ hi s3 (some ⟨L.r,gM,none⟩) 0 0 n dy [] s6 hlen
          (fun gZ=>by simp[Builtin.firstCells,loadCells,loadCellsFrom])
          (fun gZ=>by rw[tU];exact c2 gZ) (by omega) aN aH
         have ln:=grownCap_ge w (0+n) 0 el;have ark:ed=[]:=zV.1 (by omega);subst ark
         obtain⟨IE,yI⟩:=vf.drew.ae7 (H':=lc) (f:=bF) (l:=eo) (l0:=l) (cells:=[]++new) (elem:=el) (ek:=ek) (sh:=sh)
          (o:=.cells (([]:List Value).toArray++(s6.toArray++Builtin.zeroCells z.cells (grownCap w (0+n) 0 el -(0+n)))) el) (L:=⟨w.heap.size,grownCap w (0+n) 0 el*sz,sz⟩) o0 vE Og pW aF (by omega) (by omega) cR kX y2 I
          (Sl (bW.nil _) (bH.mono (vf.wY _)) (by rw[cw,MX]) bo Ja ln)
         refine⟨_,_,_,hE,IE,vj.trans yI,?_⟩;exact .q9 bT.ao 0 (0+n) _ ⟨w.heap.size,grownCap w (0+n) 0 el*sz,sz⟩ (bU.k9 _ _ _) ln (by simp)
       |_=>simp at he
    ·rw[QO Fh,dQ] at he
     --vY exact aFi
     have kI:∀a,base=some a->a.spot=none:=fun a q=>by
      subst q;cases q:a.spot with
      |none=>rfl
      |some k=>
       exfalso;cases ay:Nat.ble (dm+n) jn with
       |true=>rw[ay] at he;simp[q] at he
       |false=>rw[ay] at he;simp[AS,q] at he
     have S4:(base=none/\de=.slice none dm jn)\/(∃id off L,base=some ⟨id,off,none⟩/\μ id=some L/\de=.slice (some ⟨L.r,off,none⟩) dm jn):=by
      cases base with
      |none=>exact .inl ⟨I,hs.uy⟩
      |some a=>
       obtain⟨id,off,L,gM,ew,rfl,bi,rfl,al,_,vp⟩:=hs.xS (.inl (kI a I));rcases vp with⟨_,rfl,rfl⟩|⟨q,_⟩|⟨q,_⟩
       ·exact .inr ⟨id,gM,L,I,bi,I⟩
       ·exact absurd q Fh
       ·exact absurd q Fh
     cases oS:Nat.ble (dm+n) jn with
     |true=>
      rw[oS,cd] at he;have oS:=iE oS;rcases S4 with⟨rfl,rfl⟩|⟨id,off,L,rfl,bi,rfl⟩
      ·simp only at he;cases kH:Nat.beq n 0 with
       |false=>rw[kH] at he;simp at he
       |true=>
        rw[kH,cd] at he;simp only[cb,c8] at he;obtain⟨rfl,rfl⟩:=he;have kH:=eM kH;subst kH;refine⟨_,w,μ,?_,h,Step.refl _ _,hs⟩;exact Pb ts iA eE elem e0 i hu lN yQ hi none dm jn 0 dy s6 w hlen yY oS (fun a q=>by cases q) (fun _=>rfl)
      ·simp only at he;cases c4:tC H id (off+dm*sz) new with
       |none=>rw[c4] at he;simp at he
       |some H1=>
        rw[c4] at he;simp only[cb,c8] at he;obtain⟨rfl,rfl⟩:=he;obtain⟨a',ba,br,bG⟩:=Mx h bi bH c4;refine⟨.slice (some ⟨L.r,off,none⟩) (dm+n) jn,a',μ,?_,br,bG,?_⟩
        ·exact Pb ts iA eE elem e0 i hu lN yQ hi (some ⟨L.r,off,none⟩) dm jn n dy s6 a' hlen yY oS (fun a q=>by
          injection q with q;subst q
          rw[Addr.so,tU];exact ba) (fun q=>by cases q)
        ·have cI:jn<cK:=by
          obtain⟨_,_,_,_,_,_,_,_,_,_,vp⟩:=hs.xS (.inl I);rcases vp with⟨q,_⟩|⟨q,_⟩|⟨q,_⟩
          ·exact q
          ·exact absurd q Fh
          ·exact absurd q Fh
         exact .o5 id off _ _ L bi cI
     |false=>
      rw[oS,dQ,show AS base=true from by rcases S4 with⟨rfl,_⟩|⟨_,_,_,rfl,_⟩<;>rfl,cd] at he;have oS:jn<dm+n:=by
       rcases ha jn (dm+n) with q|q
       ·exact q
       ·rw[nc q] at oS;cases oS
      cases hold:kB H sz dm (.slice base dm jn) with
      |none=>rw[hold] at he;simp at he
      |some ed=>
       rw[hold] at he;simp only at he;obtain⟨aeA,CQ,CR⟩:=Mv h hs (m:=dm) I (b2 _) hold;cases ji:Nat.beq ed.length (dm*sz) with
       |false=>rw[ji] at he;simp at he
       |true=>
        rw[ji,cd] at he;have ji:=eM ji;unfold fresh at he;cases fB:H.pA (ed++new) elem false with
        |none=>rw[fB] at he;simp at he
        |some p=>
         obtain⟨auW,H1⟩:=p;rw[fB] at he;simp only[cb,c8] at he;obtain⟨rfl,rfl⟩:=he;have ln:=grownCap_ge w (dm+n) jn elem;have Ja:(ed++new).length=(dm+n)*sz:=by rw[dv,ji,db,g']
         obtain⟨ba,br,rfl⟩:=h.drew.U8 (o:=.cells (aeA.toArray++(s6.toArray++Builtin.zeroCells z.cells (grownCap w (dm+n) jn elem -(dm+n)))) elem) (L:=⟨w.heap.size,grownCap w (dm+n) jn elem*sz,sz⟩) fB I
          (fun f=>Sl (CQ.mono (h.wY _)) (bH.mono (h.wY _)) (Wq en) bo Ja ln)
         have arQ:∃b',de=.slice b' dm jn:=by
          rcases S4 with⟨_,q⟩|⟨_,_,_,_,_,q⟩
          ·exact⟨_,q⟩
          ·exact⟨_,q⟩
         obtain⟨b',rfl⟩:=arQ
         have hE:=Wi (P:=P) (w:=w) ts iA eE elem e0 i z hu lN yQ hi s3 b' dm jn n dy aeA s6 hlen
          (fun gZ=>by rw[tU];exact CR gZ) (fun gZ=>by rw[tU];exact c2 gZ) oS aN aH
         exact⟨_,_,_,hE,ba,br,.q9 H.ao 0 (dm+n) _ _ (bU.k9 _ _ _) ln (by simp)⟩
   |_=>simp at he
  |_=>simp at he
def anb(h:bZ P B w0 μ H w){tg ts eE:TypeId}{d mu s de v:Value}(av:bk μ d mu)(hs:bk μ s de)(he:RR P H tg d s=some (v,H')):
 ∃v' a',(Builtin.copy_ #[tg,ts] eE #[mu,de]).run P w=.ok v' a'/\bZ P B w0 μ H' a'/\Step μ μ H H'/\bk μ v v':=by
 unfold RR at he;cases hu:P.underlying tg with
 |none=>rw[hu] at he;simp at he
 |some t=>
  rw[hu] at he;cases t with
  |slice elem=>
   cases d with
   |slice base wQ aCI=>
    cases aj:s4 s with
    |none=>rw[aj] at he;simp at he
    |some dm=>
     rw[aj] at he;simp only at he;cases en:e6 P elem with
     |none=>rw[en] at he;simp at he
     |some sz=>
      rw[en] at he;simp only at he;generalize aA:(bif Nat.ble dm wQ then dm else wQ)=n at he;have Np:Nat.min dm wQ=n:=by
          rw[<-aA];cases ak:Nat.ble dm wQ with
          |true=>have:=iE ak;simp;exact gv this
          |false=>
           have:¬dm<=wQ:=fun q=>by rw[nc q] at ak;cases ak
           simp;exact Nat.min_eq_right (by omega)
      have arh:n<=dm:=by rw[<-Np];exact Nat.min_le_left _ _
      cases ay:kB H sz n s with
      |none=>rw[ay] at he;simp at he
      |some cells=>
       rw[ay] at he;simp only at he;obtain⟨cells',bb,bt⟩:=Mv h hs aj arh ay;have hlen:=adh (P:=P) hs aj;have abG:(Builtin.firstCells sz n de).run P w=.ok cells'.toArray w:=bt w.drawn;cases base with
       |none=>
        simp only[cb,c8] at he;obtain⟨rfl,rfl⟩:=he;rw[av.uy];refine⟨.int .i64 n,w,?_,h,Step.refl _ _,.atom _ I⟩;simp[Builtin.copy_,fo hu,hlen,Np,lS en,abG,goInt]
       |some a=>
        have kI:a.spot=none:=by
         cases q:a.spot with
         |none=>rfl
         |some _=>simp[q] at he
        obtain⟨id,off,L,gM,ew,rfl,bi,rfl,al,_,_⟩:=av.xS (.inl kI);simp only at he;cases gD:cells.all fx with
        |false=>rw[gD] at he;simp at he
        |true=>
         rw[gD] at he;simp only[ow,dQ] at he;cases c4:tC H id off cells with
         |none=>rw[c4] at he;simp at he
         |some H1=>
          rw[c4] at he;simp only[cb,c8] at he;obtain⟨rfl,rfl⟩:=he;obtain⟨a',ba,br,bG⟩:=Mx h bi bb c4;refine⟨.int .i64 n,a',?_,br,bG,.atom _ I⟩;have ar3:(storeCells ⟨L.r,gM,none⟩ cells').run P w=.ok () a':=by
            by_cases aQ:0<wQ
            ·rw[al aQ];exact ba
            ·have kH:n=0:=by rw[<-Np];have:wQ=0:=by omega
                             rw[this];exact Nat.min_zero _
             have:cells=[]:=by
              subst kH;cases s with
              |slice b l c=>cases b with
               |none=>simp[kB] at ay;exact ay
               |some b=>
                simp[kB] at ay;exact ay
              |string s=>simp[kB,takeN] at ay;exact ay
              |_=>simp[s4] at aj
             subst this;have:=bb.mf;subst this;simp only[storeCells] at ba ⊢;exact ba
          simp[Builtin.copy_,fo hu,hlen,Np,lS en,abG,goInt,ar3]
   |_=>simp at he
  |_=>simp at he
def am'(h:bZ P B w0 μ H w){t eE:TypeId}{x dy v:Value}(av:bk μ x dy)(he:RP P H t x=some (v,H')):
 ∃v' a',(Builtin.clear_ #[t] eE #[dy]).run P w=.ok v' a'/\bZ P B w0 μ H' a'/\Step μ μ H H'/\bk μ v v':=by
 have Ux:bk μ (.tuple #[]) (.tuple #[]):=.tuple _ _ I (fun i v v' q=>by simp at q);unfold RP at he;split at he
 ·rename_i d l c hu;simp only[cb,c8] at he;obtain⟨rfl,rfl⟩:=he;rw[av.uy];exact⟨.tuple #[],w,by simp[Builtin.clear_,fo hu],h,Step.refl _ _,Ux⟩
 ·rename_i d a c hu;simp only[cb,c8] at he;obtain⟨rfl,rfl⟩:=he;obtain⟨bD,ew,rfl⟩:=av.Bb;exact⟨.tuple #[],w,by simp[Builtin.clear_,fo hu],h,Step.refl _ _,Ux⟩
 ·rename_i elem a n c hu;split at he
  ·rename_i z kI aR;cases dX:plain z with
   |false=>rw[dX] at he;cases he
   |true=>
    rw[dX,cd] at he;split at he
    ·rename_i H1 c4;simp only[cb,c8] at he;obtain⟨rfl,rfl⟩:=he;obtain⟨id,off,L,gM,ew,rfl,bi,rfl,al,_,_⟩:=av.xS (.inl kI);have al:=al (Nat.succ_pos n);subst al;have t':bW μ z.cells.toList z.cells.toList:=(q1 dX).cells;have yN:bW μ (fp z.cells.toList (n+1)) (fp z.cells.toList (n+1)):=bW.Gi fun v az=>by
      exact K4 (p:=fun v=>bk μ v v) az (fun u hu=>by
       obtain⟨i,hi⟩:=nK.1 hu;exact t'.2 i u u hi hi)
     obtain⟨a',ba,br,bG⟩:=Mx h bi yN c4;refine⟨.tuple #[],a',?_,br,bG,Ux⟩;have jj:=K5 z.cells.toList (n+1);have e:(Builtin.zeroCells z.cells (n+1)).toList=fp z.cells.toList (n+1):=by
      have:Builtin.zeroCells z.cells (n+1)=(fp z.cells.toList (n+1)).toArray:=by
       rw[<-jj];simp[Builtin.zeroCells]
      rw[this]
     simp[Builtin.clear_,fo hu,x0 aR,e,ba]
    ·cases he
  ·cases he
 ·cases he
def awJ:∀{gi:List Field} {ps:List (Nat×Nat)},places P gi=some ps->ps.length=gi.length/\∀w,(gi.mapM (fun f=>Prod.mk f.offset <$> sizeOf f.type):Sem (List (Nat×Nat))).run P w=.ok ps w:=by
 intro gi;induction gi with
 |nil=>intro ps h;simp[places] at h;subst h;exact⟨I,fun w=>by simp⟩
 |cons f gi aC=>
  intro ps h;simp only[places] at h;cases hs:e6 P f.type with
  |none=>rw[hs] at h;simp at h
  |some n=>
   rw[hs] at h;cases ap:places P gi with
   |none=>rw[ap] at h;simp at h
   |some r=>
    rw[ap] at h;simp only[cb] at h;subst h;obtain⟨a,b⟩:=aC ap;refine⟨by simp[a],fun w=>?_⟩;simp[XU,lS hs,b]
def anV(vs:List Value):∀(c:Array Value) (off k:Nat),(vs.zipIdx k).foldl (fun cs (x:Value×Nat)=>cs.setIfInBounds (off+x.2) x.1) c=r6 c (off+k) vs:=by
 induction vs with
 |nil=>intro c off k;rfl
 |cons v vs aC=>intro c off k;simp only[List.zipIdx_cons,P5,r6];rw[aC];congr 1
def ayI{off:Nat}{cells vs Q9:List Value}(h:gO off cells vs=some Q9):r6 cells.toArray off vs=Q9.toArray:=by
 obtain⟨aF,aV,cj⟩:=Wv h;apply GH
 intro i;rw[Pk _ _ _ _ (by simpa using aV)];have:=cj i;simp only[aio];rw[this]
def ayK{off:Nat}{cells cells' vs lV r:List Value}(ax:bW μ cells cells')(az:bW μ vs lV)(h:gO off cells vs=some r):∃cu,gO off cells' lV=some cu/\bW μ r cu:=by
 induction off generalizing cells cells' r with
 |zero=>
  induction vs generalizing cells cells' lV r with
  |nil=>
   have:=az.mf;subst this;simp[gO] at h;subst h;exact⟨cells',by simp[gO],ax⟩
  |cons v vs aC=>
   obtain⟨v',j0,rfl,ae,ag⟩:=az.kg;cases cells with
   |nil=>simp[gO] at h
   |cons c cs=>
    obtain⟨c',cT,rfl,ca,b7⟩:=ax.kg;simp only[gO] at h ⊢;cases hs:gO 0 cs vs with
    |none=>rw[hs] at h;simp at h
    |some q3=>
     rw[hs] at h;simp only[cb] at h;subst h;obtain⟨cu,aF,aV⟩:=aC ag b7 hs;rw[aF];exact⟨v'::cu,I,bW.cons ae aV⟩
 |succ n aC=>
  cases cells with
  |nil=>simp[gO] at h
  |cons c cs=>
   obtain⟨c',cT,rfl,ca,b7⟩:=ax.kg;simp only[gO] at h ⊢;cases hs:gO n cs vs with
   |none=>rw[hs] at h;simp at h
   |some q3=>
    rw[hs] at h;simp only[cb] at h;subst h;obtain⟨cu,aF,aV⟩:=aC b7 hs;rw[aF];exact⟨c'::cu,I,bW.cons ca aV⟩
def ya(μ:bU)(l a9:List (Nat×Value)):Prop:=l.length=a9.length/\∀(i:Nat) p iK,l[i]?=some p->a9[i]?=some iK->p.1=iK.1/\bk μ p.2 iK.2
def ya.kg{p:Nat×Value}{l m:List (Nat×Value)}(h:ya μ (p::l) m):∃v' a9,m=(p.1,v')::a9/\bk μ p.2 v'/\ya μ l a9:=by
 cases m with
 |nil=>have:=h.1;simp at this
 |cons q a9=>
  obtain⟨a,b⟩:=h.2 0 p q I I;refine⟨q.2,a9,by rw[a],b,by have:=h.1;simpa using this,fun i x y U an=>h.2 (i+1) x y (by simpa using U) (by simpa using an)⟩
def MB{place:Nat->Option (Nat×Nat)}:∀{parts nY:List (Nat×Value)} {cells cells' r:List Value},ya μ parts nY->bW μ cells cells'->oN place cells parts=some r->
 ∃cu,Instr.fill place cells'.toArray nY=some cu.toArray/\bW μ r cu:=by
 intro parts;induction parts with
 |nil=>
  intro nY cells cells' r ap ax he;have:nY=[]:=zV.1 (by have:=ap.1;simpa using this.symm);subst this;simp[oN] at he;subst he;exact⟨cells',I,ax⟩
 |cons p parts aC=>
  intro nY cells cells' r ap ax he;obtain⟨v',a9,rfl,ae,ag⟩:=ap.kg;obtain⟨i,v⟩:=p;simp only[oN] at he;cases dX:place i with
  |none=>rw[dX] at he;simp at he
  |some q=>
   obtain⟨off,size⟩:=q;rw[dX] at he;simp only at he;cases ak:Nat.beq v.cells.toList.length size with
   |false=>rw[ak] at he;simp at he
   |true=>
    rw[ak,cd] at he;have ak:=eM ak;cases hs:gO off cells v.cells.toList with
    |none=>rw[hs] at he;simp at he
    |some Q9=>
     rw[hs] at he;simp only at he;have az:=ae.cells;obtain⟨akd,s1,s2⟩:=ayK ax az hs;obtain⟨cu,a,b⟩:=aC ag s2 he;refine⟨cu,?_,b⟩;obtain⟨aF,aV,cj⟩:=Wv s1;have Cx:=az.1;have aR:v'.cells.size=size:=by simp at Cx ak;omega
     have jj:v'.cells.toList.length=v'.cells.size:=by simp
     have aqy:(v'.cells.zipIdx.foldl (fun cs (x:Value×Nat)=>cs.setIfInBounds (off+x.2) x.1) cells'.toArray)=akd.toArray:=by
      rw[<-Array.foldl_toList,Array.toList_zipIdx,anV,pc];exact ayI s1
     have aoR:¬(v'.cells.size≠size):=by omega
     have aoS:¬(off+v'.cells.size>cells'.toArray.size):=by
      simp only[X0];rw[<-jj];omega
     simp only[Instr.fill,dX];rw[aG (by simp only[zO,Mr];exact not_or.2 ⟨aoR,aoS⟩),aqy];exact a
def am8{t:TypeId}{parts nY:List (Nat×Value)}{v:Value}(ap:ya μ parts nY)(he:H7 P t parts=some v)(w:World):
 ∃v',(Instr.build t nY.toArray).run P w=.ok v' w/\bk μ v v':=by
 unfold H7 at he;cases aR:h2 P t with
 |none=>rw[aR] at he;simp at he
 |some z=>
  rw[aR] at he;cases hu:P.underlying t with
  |none=>rw[hu] at he;simp at he
  |some d=>
   rw[hu] at he;have t':plain z=true->bW μ z.cells.toList z.cells.toList:=fun q=>(q1 q).cells;cases d with
   |struct fields=>
    simp only at he;cases dX:plain z with
    |false=>rw[dX] at he;simp at he
    |true=>
     rw[dX,cd] at he;cases Nw:places P fields.toList with
     |none=>rw[Nw] at he;simp at he
     |some ps=>
      rw[Nw] at he;simp only at he;cases ay:oN (nth ps) z.cells.toList parts with
      |none=>rw[ay] at he;simp at he
      |some cells=>
       rw[ay] at he;simp only[cb] at he;subst he;obtain⟨cu,a,b⟩:=MB ap (t' dX) ay;obtain⟨_,hm⟩:=awJ Nw;refine⟨.agg cu.toArray,?_,bk.LO b⟩;have aA:(fun i=>ps[i]?)=nth ps:=by funext i;rw[lQ]
       have hE:(Array.mapM (fun f=>Prod.mk f.offset <$> sizeOf f.type) fields:Sem (Array (Nat×Nat))).run P w=.ok ps.toArray w:=by
        rw[ah1];simp[hm]
       have bD:Instr.fill (fun x=>ps[x]?) z.cells nY=some cu.toArray:=by rw[aA];simpa using a
       simp[Instr.build,x0 aR,fo hu,hE,bD]
   |array len elem=>
    simp only at he;cases dX:plain z with
    |false=>rw[dX] at he;simp at he
    |true=>
     rw[dX,cd] at he;cases hs:e6 P elem with
     |none=>rw[hs] at he;simp at he
     |some sz=>
      rw[hs] at he;simp only at he;cases ay:oN (fun i=>some (i*sz,sz)) z.cells.toList parts with
      |none=>rw[ay] at he;simp at he
      |some cells=>
       rw[ay] at he;simp only[cb] at he;subst he;obtain⟨cu,a,b⟩:=MB ap (t' dX) ay;refine⟨.agg cu.toArray,?_,bk.LO b⟩;have bD:Instr.fill (fun i=>some (i*sz,sz)) z.cells nY=some cu.toArray:=by simpa using a
       simp[Instr.build,x0 aR,fo hu,lS hs,bD]
   |_=>simp at he
def am7(h:bZ P B w0 μ H w){t:TypeId}{len:Nat}{parts nY:List (Nat×Value)}{v:Value}(ap:ya μ parts nY)(he:H8 P H t len parts=some (v,H')):
 ∃v' a' bh,(Instr.buildSlice t len nY.toArray).run P w=.ok v' a'/\bZ P B w0 bh H' a'/\Step μ bh H H'/\bk bh v v':=by
 unfold H8 at he;cases hu:P.underlying t with
 |none=>rw[hu] at he;simp at he
 |some d=>
  rw[hu] at he;cases d with
  |slice elem=>
   simp only at he;cases hs:e6 P elem with
   |none=>rw[hs] at he;simp at he
   |some sz=>
    rw[hs] at he;cases aR:h2 P elem with
    |none=>rw[aR] at he;simp at he
    |some z=>
     rw[aR] at he;simp only at he;cases ax:(Nat.ble len 100000&&Nat.ble (len*sz) 100000&&plain z&&Nat.beq z.cells.toList.length sz) with
     |false=>rw[ax] at he;simp at he
     |true=>
      rw[ax,cd] at he;simp only[gQ] at ax;obtain⟨⟨⟨k',aN⟩,aH⟩,bo⟩:=ax;have k':=iE k';have aN:=iE aN;have bo:=eM bo;cases ay:oN (fun i=>some (i*sz,sz)) (fp z.cells.toList len) parts with
      |none=>rw[ay] at he;simp at he
      |some cells=>
       rw[ay] at he;simp only at he;cases al:cells.all fx with
       |false=>rw[al] at he;simp at he
       |true=>
        rw[al,cd] at he;cases aA:vI H elem cells with
        |none=>rw[aA] at he;simp at he
        |some p=>
         obtain⟨id,H1⟩:=p;rw[aA] at he;simp only[cb,c8] at he;obtain⟨rfl,rfl⟩:=he;have t':bW μ z.cells.toList z.cells.toList:=(q1 aH).cells;have yN:bW μ (fp z.cells.toList len) (fp z.cells.toList len):=bW.Gi fun v az=>
          K4 (p:=fun v=>bk μ v v) az (fun u hu=>by
           obtain⟨i,hi⟩:=nK.1 hu;exact t'.2 i u u hi hi)
         obtain⟨cu,a,b⟩:=MB ap yN ay;obtain⟨bh,L,cz,cX,lO,o0,_⟩:=Vq h b aA;refine⟨.slice (some ⟨w.heap.size,0,none⟩) len len,_,bh,?_,cz,cX,?_⟩
         ·have jj:=K5 z.cells.toList len;have asK:z.cells.size=sz:=by simpa using bo
          have S5:¬(16777216<len*sz):=by omega
          rw[bo] at jj;simp only[ah2] at jj;by_cases aQ:len*sz=0
          ·have qM:fp z.cells.toList len=[]:=zV.1 (by rw[Xk,bo];exact aQ);rw[qM] at a;have bD:Instr.fill (fun i=>some (i*sz,sz)) (Array.map (fun _=>(default:Value)) (Array.range 0)) nY=some cu.toArray:=by
            have kz:Array.map (fun _:Nat=>(default:Value)) (Array.range 0)=#[]:=by simp
            rw[kz];exact a
           simp[Instr.buildSlice,fo hu,lS hs,aQ,bD,newRow,newObj,Sem.run]
          ·have bD:Instr.fill (fun i=>some (i*sz,sz)) ((Array.range (len*sz)).map fun i=>z.cells[i % z.cells.size]!) nY=some cu.toArray:=by rw[jj];exact a
           simp[Instr.buildSlice,fo hu,lS hs,S5,aQ,x0 aR,bD,newRow,newObj,Sem.run]
         ·rw[<-o0];refine .o5 id 0 len len L lO ?_;have:(100000:Nat)<cK:=by decide
          omega
  |_=>simp at he
def aac{α:Type}{s:Sem α}{a:α}(h:fw P s=some a)(w:World):s.run P w=.ok a w:=by
 induction s generalizing w with
 |pure b=>simp[fw] at h;subst h;rfl
 |program k aC=>exact aC P (by simpa[fw] using h) w
 |mark m k aC=>exact aC (by simpa[fw] using h) w
 |_=>simp[fw] at h
def bZ.ahH(h:bZ P B w0 μ H w){id:Nat}{L:Loc}{b b':fP}{o':Obj}(bi:μ id=some L)(aB:H.bJ<=id)(hm:H.mem.get id=some b)(jI:∀c e o f z s,b≠.row c e o f z s)(av:b≠.dead)
 (hu:H.upd id b'=some H')(sJ:∀c e o f z s,b'≠.row c e o f z s)(ak:kP P μ L b' o'):
 bZ P B w0 μ H' {w with heap:=w.heap.setIfInBounds L.r o'}/\Step μ μ H H':=by
 obtain⟨fK,iO,mj,zF,uA⟩:=aw.r7 hu;have xe:H.mem.get id≠some .dead:=by rw[hm];intro q;injection q with q;exact av q
 refine h.write bi aB xe fK mj zF (by rw[uA];simp) (fun x U=>.inl (by rw[uA,aG U])) ?_ (fun f l aj=>.inl (by rw[iO];exact aj)) (fun f l aj=>.inl (by rw[<-iO];exact aj))
  (fun c e f z s q=>absurd q (sJ _ _ _ _ _ _)) (fun q=>by
   rw[hm] at q;cases b with
   |row c e o f z s=>exact absurd I (jI _ _ _ _ _ _)
   |_=>simp[lr] at q) ak
 intro x bM U pT ar;rcases h.sep id x L bM (Ne.symm U) bi pT ar.symm with d|d|⟨ck,l,⟨bb,aF,eH,Pe,q⟩,_⟩
 ·exact absurd d xe
 ·rw[uA,aG U];exact d
 ·rw[hm] at q;injection q with q;exact absurd q (jI _ _ _ _ _ _)
def anB{x dy v:Value}{xt asserted:TypeId}{ok:Bool}(U:bk μ x dy)(he:EH P x asserted ok=some v)(w:World):
 ∃v',(Instr.typeAssert dy xt asserted ok).run P w=.ok v' w/\bk μ v v':=by
 unfold EH at he;simp only at he
 have Tk:∀v,(bif ok then(match h2 P asserted with|some z=>bif plain z then some (Value.tuple #[z,.bool false]) else none|none=>none) else none)=some v->
  ok=true/\∃z,h2 P asserted=some z/\plain z=true/\v=.tuple #[z,.bool false]:=by
  intro v az;cases ok with
  |false=>simp at az
  |true=>
   simp only[cd] at az;cases aR:h2 P asserted with
   |none=>rw[aR] at az;simp at az
   |some z=>
    rw[aR] at az;simp only at az;cases ap:plain z with
    |false=>rw[ap] at az;simp at az
    |true=>rw[ap] at az;simp at az;exact⟨I,z,I,ap,az.symm⟩
 have Jp:∀z,plain z=true->bk μ (.tuple #[z,.bool false]) (.tuple #[z,.bool false]):=fun z aR=>bk.WL (bW.cons (q1 aR) (bW.cons (.atom _ I) (bW.nil _)));have acm:∀y lW,bk μ y lW->bk μ (bif ok then .tuple #[y,.bool true] else y) (if ok then .tuple #[lW,.bool true] else lW):=fun y lW an=>by
  cases ok with
  |true=>exact bk.WL (bW.cons an (bW.cons (.atom _ I) (bW.nil _)))
  |false=>exact an
 cases hu:P.underlying asserted with
 |none=>rw[hu] at he;simp at he
 |some d=>
  rw[hu] at he;cases x with
  |nilIface=>
   rw[U.J9];have az:(bif ok then(match h2 P asserted with|some z=>bif plain z then some (Value.tuple #[z,.bool false]) else none|none=>none) else none)=some v:=by
    cases d<;>exact he
   obtain⟨rfl,z,aR,ap,rfl⟩:=Tk v az;refine⟨_,?_,Jp z ap⟩;cases d<;>simp[Instr.typeAssert,fo hu,x0 aR]
  |iface t y=>
   obtain⟨lW,rfl,an⟩:=U.y9;by_cases hi:∃want,d=.interface want
   ·obtain⟨want,rfl⟩:=hi;simp only at he;cases Ng:P.info? t with
    |none=>rw[Ng] at he;simp at he
    |some i=>
     rw[Ng] at he;simp only at he;cases rL:Instr.missingMethod want i.methods with
     |none=>
      rw[rL] at he;simp only[cb] at he;subst he;refine⟨_,?_,acm _ _ (.iface t y lW an)⟩;simp[Instr.typeAssert,fo hu,typeInfo,Ng,rL]
     |some J'=>
      rw[rL] at he;obtain⟨rfl,z,aR,ap,rfl⟩:=Tk v he;refine⟨_,?_,Jp z ap⟩;simp[Instr.typeAssert,fo hu,typeInfo,Ng,rL,x0 aR]
   ·have rF:(bif Nat.beq t asserted then some (bif ok then .tuple #[y,.bool true] else y) else(bif ok then(match h2 P asserted with|some z=>bif plain z then some (Value.tuple #[z,.bool false]) else none|none=>none) else none))=some v:=by
     cases d<;>first|exact he|exact absurd ⟨_,I⟩ hi
    cases ak:Nat.beq t asserted with
    |true=>
     rw[ak,cd] at rF;simp only[cb] at rF;subst rF;have:=eM ak;subst this;refine⟨_,?_,acm _ _ an⟩;cases d<;>first|exact absurd ⟨_,I⟩ hi|simp[Instr.typeAssert,fo hu]
    |false=>
     rw[ak,dQ] at rF;obtain⟨rfl,z,aR,ap,rfl⟩:=Tk v rF;have c7:t≠asserted:=fun e=>by subst e;simp at ak
     refine⟨_,?_,Jp z ap⟩;cases d<;>first|exact absurd ⟨_,I⟩ hi|simp[Instr.typeAssert,fo hu,c7,x0 aR]
  |_=>cases d<;>simp at he
def anf{t:TypeId}{x dy y lW:Value}{r:Bool}(U:bk μ x dy)(an:bk μ y lW)(he:yz P t x y=some r)(d:Nat)(w:World):(Op.equalIn (d+1) t dy lW).run P w=.ok r w:=by
 unfold yz at he;cases hu:P.underlying t with
 |none=>rw[hu] at he;simp at he
 |some tg=>
  rw[hu] at he;cases tg with
  |pointer elem=>
   cases x with
   |pointer a=>
    cases y with
    |pointer b=>
     cases a with
     |none=>
      rw[U.Ga];cases b with
      |none=>rw[an.Ga];simp at he;subst he;simp[Op.equalIn,fo hu]
      |some b=>obtain⟨id,off,L,rfl,bi,rfl⟩:=an.p';simp at he;subst he;simp[Op.equalIn,fo hu]
     |some a=>
      obtain⟨id,off,L,rfl,bi,rfl⟩:=U.p';cases b with
      |none=>rw[an.Ga];simp at he;subst he;simp[Op.equalIn,fo hu]
      |some b=>
       obtain⟨nx,gM,bM,rfl,pT,rfl⟩:=an.p';simp only at he;cases hs:e6 P elem with
       |none=>rw[hs] at he;simp at he
       |some n=>
        rw[hs] at he;cases n with
        |zero=>simp at he
        |succ n=>
         simp only at he;cases ak:Nat.beq id nx with
         |false=>rw[ak] at he;simp at he
         |true=>
          rw[ak,cd] at he;have:=eM ak;subst this;rw[bi] at pT;injection pT with pT;subst pT
          simp only[cb] at he;subst he;have Ck:(({block:=id,off:=off}:Addr)=={block:=id,off:=gM})=(({block:=L.r,off:=off}:Addr)=={block:=L.r,off:=gM}):=by
           rw[rc];simp
          rw[Ck];simp[Op.equalIn,fo hu,lS hs,sameAddr]
    |_=>simp at he
   |_=>simp at he
  |slice elem=>
   cases x with
   |slice a l c=>
    cases y with
    |slice b a9 c'=>
     cases a with
     |none=>
      rw[U.uy];cases b with
      |none=>rw[an.uy];simp at he;subst he;simp[Op.equalIn,fo hu]
      |some b=>obtain⟨_,_,rfl⟩:=an.Bb;simp at he;subst he;simp[Op.equalIn,fo hu]
     |some a=>
      obtain⟨_,_,rfl⟩:=U.Bb;cases b with
      |none=>rw[an.uy];simp at he;subst he;simp[Op.equalIn,fo hu]
      |some b=>simp at he
    |_=>simp at he
   |_=>simp at he
  |map k e=>
   cases x with
   |map a=>
    cases y with
    |map b=>
     cases a with
     |none=>
      rw[U.JW];cases b with
      |none=>rw[an.JW];simp at he;subst he;simp[Op.equalIn,fo hu]
      |some b=>obtain⟨_,_,rfl⟩:=an.JV;simp at he;subst he;simp[Op.equalIn,fo hu]
     |some a=>
      obtain⟨_,_,rfl⟩:=U.JV;cases b with
      |none=>rw[an.JW];simp at he;subst he;simp[Op.equalIn,fo hu]
      |some b=>simp at he
    |_=>simp at he
   |_=>simp at he
  |func ps rs v=>
   cases x with
   |nilFunc=>
    rw[U.Ou];cases y with
    |func fn a b=>
     simp at he;subst he;cases an with
     |atom _ q=>simp[isAtom] at q
     |func=>simp[Op.equalIn,fo hu]
     |yield=>simp[Op.equalIn,fo hu]
    |_=>simp at he
   |func fn a b=>
    cases y with
    |nilFunc=>
     rw[an.Ou];simp at he;subst he;cases U with
     |atom _ q=>simp[isAtom] at q
     |func=>simp[Op.equalIn,fo hu]
     |yield=>simp[Op.equalIn,fo hu]
    |_=>simp at he
   |_=>simp at he
  |interface Ol=>
   cases x with
   |nilIface=>
    rw[U.J9];cases y with
    |iface t y=>obtain⟨_,rfl,_⟩:=an.y9;simp at he;subst he;simp[Op.equalIn,fo hu]
    |_=>simp at he
   |iface t x=>
    obtain⟨_,rfl,_⟩:=U.y9;cases y with
    |nilIface=>rw[an.J9];simp at he;subst he;simp[Op.equalIn,fo hu]
    |_=>simp at he
   |_=>simp at he
  |_=>simp at he
def af9{r:Nat}{c:Array Value}{e:TypeId}{f:Nat×Nat}(h:w.heap[r]?=some (.cells c e f)):(shape r).run P w=.ok (some (e,c.size)) w:=by
 simp[shape,Sem.run,World.shape?,h]
def ahr{r:Nat}{c:Array Value}{e:TypeId}{f:Nat×Nat}(h:w.heap[r]?=some (.cells c e f)):(viewAt r).run P w=.ok none w:=by
 simp[viewAt,af9 h]
def akN{r:Nat}{c:Array Value}{e:TypeId}{f:Nat×Nat}(h:w.heap[r]?=some (.cells c e f)):(cellsIn r).run P w=.ok (some c.size) w:=by
 simp[cellsIn,af9 h]
def ana(h:bZ P B w0 μ H w){src dst:TypeId}{x dy v:Value}(U:bk μ x dy)(he:RQ P H src dst x=some v):
 ∃v',(convert src dst dy).run P w=.ok v' w/\bk μ v v':=by
 unfold RQ at he;cases hu:P.underlying src with
 |none=>rw[hu] at he;simp at he
 |some ds=>
  rw[hu] at he;cases av:P.underlying dst with
  |none=>rw[av] at he;simp at he
  |some BQ=>
   rw[av] at he;cases ds with
   |pointer t=>
    cases BQ with
    |unsafePointer=>
     cases x with
     |pointer a=>
      cases a with
      |none=>simp at he
      |some a=>
       obtain⟨id,off,L,rfl,bi,rfl⟩:=U.p';simp only at he;cases hs:e6 P t with
       |none=>rw[hs] at he;simp at he
       |some n=>
        rw[hs] at he;cases n with
        |zero=>simp at he
        |succ n=>
         cases hm:H.mem.get id with
         |none=>rw[hm] at he;simp at he
         |some b=>
          rw[hm] at he;cases b with
          |row cells el opn bF ek sh=>
           simp only at he;cases ak:Nat.blt off cells.length with
           |false=>rw[ak] at he;simp at he
           |true=>
            rw[ak,cd] at he;simp only[cb] at he;subst he;have ak:off<cells.length:=iE ak;obtain⟨c,f,ca,b7,cw,f',gJ,hL,hd⟩:=h.row bi hm;have cI:¬(c.size<=off):=by omega
            refine⟨_,?_,U⟩;simp[convert,fo hu,fo av,Conv.unsafePointer,Conv.seenAt,ahr ca,akN ca,cI,lS hs]
          |_=>simp at he
     |_=>simp at he
    |_=>simp at he
   |unsafePointer=>
    cases BQ with
    |pointer u=>
     cases x with
     |pointer a=>
      cases a with
      |none=>simp at he
      |some a=>
       obtain⟨id,off,L,rfl,bi,rfl⟩:=U.p';simp only at he;cases hs:e6 P u with
       |none=>rw[hs] at he;simp at he
       |some n=>
        rw[hs] at he;cases n with
        |zero=>simp at he
        |succ n=>
         cases hm:H.mem.get id with
         |none=>rw[hm] at he;simp at he
         |some b=>
          rw[hm] at he;cases b with
          |row cells el opn bF ek sh=>
           cases opn with
           |true=>simp at he
           |false=>
            simp only at he;cases ak:liesAt P P.depth el (cells.length / P.cellsOf el) off u 1 with
            |false=>rw[ak] at he;simp at he
            |true=>
             rw[ak,cd] at he;simp only[cb] at he;subst he;obtain⟨c,f,ca,b7,cw,f',gJ,hL,hd⟩:=h.row bi hm;have l8:c.size=cells.length:=by rw[b7,gJ I]
             have oV:w.shape? L.r=some (el,c.size):=by simp[World.shape?,ca]
             refine⟨_,?_,U⟩;simp[convert,fo hu,fo av,Conv.unsafePointer,Conv.seenAt,ahr ca,lS hs,variablesAt,oV,l8,ak]
          |_=>simp at he
     |_=>simp at he
    |_=>simp at he
   |_=>cases BQ<;>simp at he
def YX:∀{l:List Value} {bs:List UInt8},rr l=some bs->l=bs.map (fun b=>Value.int .u8 (b.toNat:Int)):=by
 intro l;induction l with
 |nil=>intro bs h;simp[rr] at h;subst h;rfl
 |cons v l aC=>
  intro bs h;cases v with
  |int k n=>
   cases k with
   |u8=>
    cases n with
    |ofNat n=>
     simp only[rr] at h;cases cI:Nat.blt n 256 with
     |false=>rw[cI] at h;simp at h
     |true=>
      rw[cI,cd] at h;have cI:n<256:=iE cI;cases ak:rr l with
      |none=>rw[ak] at h;simp at h
      |some r=>
       rw[ak] at h;simp only[cb] at h;subst h;rw[tp,<-aC ak];congr 2
       have:(UInt8.ofNat n).toNat=n:=by simp;omega
       rw[this];rfl
    |negSucc n=>simp[rr] at h
   |_=>simp[rr] at h
  |_=>simp[rr] at h
def bW.bytes{bs:List UInt8}{a9:List Value}(h:bW μ (bs.map fun b=>Value.int .u8 (b.toNat:Int)) a9):a9=bs.map fun b=>Value.int .u8 (b.toNat:Int):=by
 induction bs generalizing a9 with
 |nil=>exact h.mf
 |cons b bs aC=>
  obtain⟨v',t,rfl,ae,ag⟩:=h.kg;rw[ae.rW,aC ag];rfl
def as3{v:Value}(h:isByte v=true):∃n,v=.int .u8 (.ofNat n)/\Nat.blt n 256=true:=by
 cases v with
 |int k i=>
  cases k with
  |u8=>cases i with
   |ofNat n=>exact⟨n,I,h⟩
   |negSucc n=>cases h
  |_=>cases h
 |_=>cases h
def aj4:∀(c r:List Value),(∀v∈c,isByte v=true)->rr c=some (agD c.length (c++r)):=by
 intro c;induction c with
 |nil=>intro r _;cases r<;>rfl
 |cons v c aC=>
  intro r h;obtain⟨n,rfl,aA⟩:=as3 (h v (by simp));have hi:=aC r fun u hu=>h u (by simp[hu]);simp only[rr,aA,cd,hi];rfl
def alY(k:Nat)(l:List Value):yt (k+1) l=Option.rec (motive:=fun _=>Option (List Value)) none (yt k) (yt k l):=rfl
def alX:∀{k:Nat} {l r:List Value},yt k l=some r->∃c,l=c++r/\c.length=2 ^ k/\∀v∈c,isByte v=true:=by
 intro k;induction k with
 |zero=>
  intro l r h;cases l with
  |nil=>cases h
  |cons v l=>
   have h:Bool.rec (motive:=fun _=>Option (List Value)) none (some l) (isByte v)=some r:=h;cases ak:isByte v with
   |false=>rw[ak] at h;cases h
   |true=>rw[ak] at h;injection h with h;subst h;exact⟨[v],I,I,fun u hu=>by simp at hu;rw[hu];exact ak⟩
 |succ k aC=>
  intro l r h;rw[alY] at h;cases ae:yt k l with
  |none=>rw[ae] at h;cases h
  |some m=>
   rw[ae] at h;have h:yt k m=some r:=h;obtain⟨bb,rfl,aV,cj⟩:=aC ae;obtain⟨bt,rfl,cR,kX⟩:=aC h;refine⟨bb++bt,by simp,by simp[aV,cR,lz];omega,fun v az=>?_⟩;rcases mm.1 az with q|q
   ·exact cj v q
   ·exact kX v q
def alW(k n:Nat)(l:List Value):BO (k+1) n l=Bool.rec (motive:=fun _=>Bool) (Option.rec (motive:=fun _=>Bool) false (fun r=>BO k (Nat.sub n (Nat.pow 2 k)) r) (yt k l)) (BO k n l) (Nat.blt n (Nat.pow 2 k)):=rfl
def alV:∀{k n:Nat} {l:List Value},BO k n l=true->∃c r,l=c++r/\c.length=n/\∀v∈c,isByte v=true:=by
 intro k;induction k with
 |zero=>
  intro n l h;have h:Nat.beq n 0=true:=h;exact⟨[],l,I,(eM h).symm,fun v az=>by cases az⟩
 |succ k aC=>
  intro n l h;rw[alW] at h;cases ak:Nat.blt n (Nat.pow 2 k) with
  |true=>rw[ak] at h;exact aC h
  |false=>
   rw[ak] at h;have ln:2 ^ k<=n:=by
    rcases ha n (2 ^ k) with q|q
    ·have:Nat.blt n (Nat.pow 2 k)=true:=nc q;rw[ak] at this;cases this
    ·exact q
   cases ae:yt k l with
   |none=>rw[ae] at h;cases h
   |some m=>
    rw[ae] at h;have h:BO k (n -2 ^ k) m=true:=h;obtain⟨bb,rfl,aV,cj⟩:=alX ae;obtain⟨bt,r,rfl,cR,kX⟩:=aC h;have cR:bt.length=n -2 ^ k:=cR;refine⟨bb++bt,r,by simp,by rw[dv,aV,cR];omega,fun v az=>?_⟩;rcases mm.1 az with q|q
    ·exact cj v q
    ·exact kX v q
def azA{α:Type}:∀{c:List α} (r:List α),takeN c.length (c++r)=some c:=by
 intro c;induction c with
 |nil=>intro r;rfl
 |cons a c aC=>intro r;simp only[ks,Lm,takeN];rw[aC r]
def anz{src dst:TypeId}{x v:Value}(he:RU P H src dst x=some v):EG P H src dst x=some v:=by
 unfold RU at he;unfold EG;cases ae:P.underlying src with
 |none=>rw[ae] at he;cases he
 |some ts=>
  rw[ae] at he;cases ag:P.underlying dst with
  |none=>rw[ag] at he;cases ts<;>cases he
  |some tg=>
   rw[ag] at he;cases ts with
   |slice e=>
    cases tg with
    |string=>
     cases x with
     |slice b len cap=>
      cases b with
      |none=>cases he
      |some a=>
       simp only at he ⊢;cases aN:P.underlying e with
       |none=>rw[aN] at he;cases he
       |some agG=>
        rw[aN] at he;cases aH:a.spot with
        |some s=>rw[aH] at he;cases agG<;>first|(cases he;done)|(rename_i k;cases k<;>cases he)
        |none=>
         rw[aH] at he;cases agG with
         |int k=>
          cases k with
          |u8=>
           cases bo:H.mem.get a.block with
           |none=>rw[bo] at he;cases he
           |some ni=>
            rw[bo] at he;cases ni with
            |row cells el opn bF ek sh=>
             simp only at he ⊢;unfold agI at he;cases av:BO 21 len (qH a.off cells) with
             |false=>rw[av] at he;cases he
             |true=>
              rw[av,cd] at he;obtain⟨c,r,aF,aV,cj⟩:=alV av;have ay:kB H 1 len (.slice (some a) len 0)=some c:=by
               unfold kB;simp only[aH];cases len with
               |zero=>simp only;rw[zV.1 aV]
               |succ m=>
                simp only[bo,jr];rw[aF,<-aV];exact azA r
              simp only[ay,aj4 c r cj,AS,aH,ow,dQ];rw[aV,<-aF];exact he
            |_=>cases he
          |_=>cases he
         |_=>cases he
     |_=>cases he
    |_=>cases x<;>first|(cases he;done)|(rename_i b _ _;cases b<;>cases he)
   |_=>cases he
def anx{src dst:TypeId}{x v:Value}(he:RT P H src dst x=some v):EG P H src dst x=some v:=by
 unfold RT at he;cases aj:U1 x with
 |false=>rw[aj] at he;exact he
 |true=>rw[aj] at he;exact anz he
def anA(h:bZ P B w0 μ H w){src dst:TypeId}{x dy v:Value}(U:bk μ x dy)(he:EG P H src dst x=some v):
 ∃v',(convert src dst dy).run P w=.ok v' w/\bk μ v v':=by
 unfold EG at he;cases hu:P.underlying src with
 |none=>rw[hu] at he;simp at he
 |some ds=>
  rw[hu] at he;cases av:P.underlying dst with
  |none=>rw[av] at he;simp at he
  |some BQ=>
   rw[av] at he;cases ds with
   |slice e=>
    cases BQ with
    |string=>
     cases x with
     |slice a len cap=>
      cases a with
      |none=>
       rw[U.uy];simp only at he;cases fj:P.underlying e with
       |none=>rw[fj] at he;simp at he
       |some Ry=>
        rw[fj] at he;cases Ry with
        |int k=>
         cases k with
         |u8=>
          simp only[cb] at he;subst he;refine⟨.string .empty,?_,.atom _ I⟩;rw[run_convert_bytes_string w src dst e _ _ _ hu fj av];simp[Conv.bytesToString]
         |_=>simp at he
        |_=>simp at he
      |some a=>
       have kI:a.spot=none:=by
        cases q:a.spot with
        |none=>rfl
        |some _=>simp[AS,q] at he
       obtain⟨id,off,L,gM,ew,rfl,bi,rfl,al,_,_⟩:=U.xS (.inl kI);simp only[AS,ow,dQ] at he;cases fj:P.underlying e with
       |none=>rw[fj] at he;simp at he
       |some Ry=>
        rw[fj] at he;cases Ry with
        |int k=>
         cases k with
         |u8=>
          simp only at he;cases ay:kB H 1 len (.slice (some ⟨id,off,none⟩) len 0) with
          |none=>rw[ay] at he;simp at he
          |some cells=>
           rw[ay] at he;simp only at he;cases ak:rr cells with
           |none=>rw[ak] at he;simp at he
           |some bs=>
            rw[ak] at he;simp only[cb] at he;subst he;have Na:=YX ak;have Up:bk μ (.slice (some ⟨id,off,none⟩) len 0) (.slice (some ⟨L.r,off,none⟩) len 0):=.o5 id off len 0 L bi (by decide);obtain⟨a9,ca,b7⟩:=Mv h Up (m:=len) I (b2 _) ay;rw[Na] at ca;have dC:=ca.bytes;subst dC;have E9:(loadCells ⟨L.r,gM,none⟩ len).run P w=.ok ((bs.map fun b=>(b.toNat:Int)).map (Value.int .u8)).toArray w:=by
             by_cases aQ:0<len
             ·rw[al aQ];have:=b7 w.drawn;simp only[Builtin.firstCells,jr] at this;rw[this];simp
             ·have qM:len=0:=by omega
              subst qM;have l9:bs.map (fun b=>Value.int .u8 (b.toNat:Int))=[]:=by
               rw[<-Na];simp[kB] at ay;exact ay
              have:bs=[]:=by simpa using l9
              subst this;simp[loadCells,loadCellsFrom]
            refine⟨.string ⟨bs.toArray⟩,?_,.atom _ I⟩;rw[run_convert_bytes_string w src dst e _ _ _ hu fj av,run_bytesToString w ⟨L.r,gM,none⟩ len ew _ E9,foldl_push_bytes];congr 2
            have xa:((fun n:Int=>UInt8.ofNat n.toNat) ∘ fun b:UInt8=>(b.toNat:Int))=_root_.id:=by funext b;simp
            apply ByteArray.ext
            simp[xa]
         |_=>simp at he
        |_=>simp at he
     |_=>simp at he
    |_=>simp at he
   |_=>cases BQ<;>simp at he
def an8{r n:Nat}{c:Array Value}{e:TypeId}{f:Nat×Nat}(h:w.heap[r]?=some (.cells c e f))(aA:n≠0):
 w.freeze ⟨r,0,none⟩ n={w with heap:=w.heap.setIfInBounds r (.cells c e (if f.1==f.2 then(0,0+n) else(min f.1 0,max f.2 (0+n))))}:=by
 have ar:r<w.heap.size:=by
  rcases ha r w.heap.size with dB|dB
  ·exact dB
  ·rw[uG dB] at h;cases h
 unfold World.freeze;rw[aG aA];congr 1
 apply GH
 intro i;rw[ah0,Bp];by_cases hi:r=i
 ·subst hi;rw[aP I,aP I,h,aP ar];rfl
 ·simp[hi]
def anC(h:bZ P B w0 μ H w){us it eE:TypeId}{p iK n kM v:Value}(ap:bk μ p iK)(aA:bk μ n kM)(he:RV P H us p n=some (v,H')):
 ∃v' a',(Builtin.unsafeString_ #[us,it] eE #[iK,kM]).run P w=.ok v' a'/\bZ P B w0 μ H' a'/\Step μ μ H H'/\bk μ v v':=by
 unfold RV at he;cases p with
 |pointer a=>
  cases n with
  |int k i=>
   cases k with
   |i64=>
    obtain rfl:=aA.rW;cases i with
    |ofNat m=>
     cases m with
     |zero=>
      cases a with
      |none=>
       rw[ap.Ga];simp only[cb,c8] at he;obtain⟨rfl,rfl⟩:=he;exact⟨_,w,Lib.run_unsafeString_none w us it eE none,h,Step.refl _ _,.atom _ I⟩
      |some a=>
       obtain⟨id,off,L,rfl,bi,rfl⟩:=ap.p';simp only[cb,c8] at he;obtain⟨rfl,rfl⟩:=he;exact⟨_,w,Lib.run_unsafeString_none w us it eE _,h,Step.refl _ _,.atom _ I⟩
     |succ m=>
      cases a with
      |none=>exact absurd (show none=some (v,H') from he) (by simp)
      |some a=>
       obtain⟨id,off,L,rfl,bi,rfl⟩:=ap.p';simp only at he;cases hu:P.underlying us with
       |none=>rw[hu] at he;simp at he
       |some d=>
        rw[hu] at he;cases d with
        |pointer u=>
         cases hm:H.mem.get id with
         |none=>rw[hm] at he;simp at he
         |some b=>
          rw[hm] at he;cases b with
          |row cells e opn bF ek sh=>
           simp only at he;cases ax:(Nat.beq e u&&Nat.beq (P.cellsOf e) 1&&Nat.ble (m+1) 1000000&&!Nat.blt id H.bJ&&Nat.beq off 0&&!sh) with
           |false=>rw[ax] at he;simp at he
           |true=>
            rw[ax] at he;simp only[ow,dQ] at he;simp only[gQ,tj] at ax;obtain⟨⟨⟨⟨⟨aN,aH⟩,bo⟩,db⟩,fH⟩,hS⟩:=ax;have aN:=eM aN;subst aN;have aH:=eM aH;have bo:=iE bo;have db:=YR db;have fH:=eM fH;subst fH;cases aM:takeN (m+1) cells with
            |none=>rw[aM] at he;simp at he
            |some l=>
             rw[aM] at he;simp only at he;cases ak:rr l with
             |none=>rw[ak] at he;simp at he
             |some bs=>
              rw[ak] at he;simp only at he;cases Uy:H.upd id (.row cells e opn bF (bif sh then u' else Nat.max ek (m+1)) sh) with
              |none=>rw[Uy] at he;simp at he
              |some H0=>
               rw[Uy] at he;simp only at he;cases TA:(bif opn then AL H0 id bF else some H0) with
               |none=>rw[TA] at he;simp at he
               |some H1=>
               rw[TA] at he;simp only[cb,c8] at he;obtain⟨rfl,rfl⟩:=he;obtain⟨c,f,ca,b7,cw,f',gJ,hL,hd⟩:=h.row bi hm;obtain⟨t1,t2,t3⟩:=Gm aM;have hle:=YX ak;have Cg:bs.length=m+1:=by have:=dh List.length hle;simp at this;omega
               have dC:bW μ l ((c.toList.take cells.length).take (m+1)):=by rw[t1];exact hL.take (m+1)
               rw[hle] at dC;have apX:=dC.bytes;have oV:w.shape? L.r=some (e,c.size):=by simp[World.shape?,ca]
               have hE:=Lib.run_unsafeString_row (P:=P) w us it eE e hu aH L.r c.size oV bs (by intro q;rw[q] at Cg;simp at Cg) (by omega) (by omega) (fun j x aW=>by
                rw[Addr.so,j8,cell_of_row ca];have:((c.toList.take cells.length).take (m+1))[j]?=some (Value.int .u8 (x.toNat:Int)):=by rw[apX,h',aW];rfl
                rw[iY] at this;split at this
                ·rw[iY] at this;split at this
                 ·simpa using this
                 ·cases this
                ·cases this)
               rw[Cg] at hE;have lJ:=an8 (n:=m+1) ca (by omega);rw[lJ] at hE;have ak:kP P μ L (.row cells e opn bF (bif sh then u' else Nat.max ek (m+1)) sh) (.cells c e (if f.1==f.2 then(0,0+(m+1)) else(min f.1 0,max f.2 (0+(m+1))))):=by
                refine⟨I,b7,cw,f',gJ,fun i v v' q dE=>hL.2 i v v' q ?_,?_⟩
                ·have hi:=(dO.1 q).1;rw[iY,aP hi];simpa using dE
                ·cases sh with
                 |true=>cases hS
                 |false=>
                  simp only[dQ];have xg:m+1<=Nat.max ek (m+1):=Nat.le_max_right _ _;have aD7:ek<=Nat.max ek (m+1):=Nat.le_max_left _ _;rcases hd.2 I with q|q
                  ·rw[aP (by simpa using q)];exact⟨fun off _ _ ag=>by simp at ag;omega,fun _=>.inr (by simpa using xg)⟩
                  ·by_cases rG:f.1=f.2
                   ·rw[aP (by simpa using rG)];exact⟨fun off _ _ ag=>by simp at ag;omega,fun _=>.inr (by simpa using xg)⟩
                   ·rw[aG (by simpa using rG)];have:max f.2 (0+(m+1))<=Nat.max ek (m+1):=Nat.max_le.2 ⟨by omega,by omega⟩;exact⟨fun off _ _ ag=>by simp only at ag;omega,fun _=>.inr this⟩
               obtain⟨dc,c9⟩:=h.ahI bi db hm I Uy TA ak;exact⟨_,_,hE,dc,c9,.atom _ I⟩
          |_=>simp at he
        |_=>simp at he
    |negSucc m=>cases a<;>simp at he
   |_=>cases a<;>simp at he
  |_=>cases a<;>simp at he
 |_=>simp at he
def strCells_eq(l:List UInt8):strCells l=l.map fun b=>Value.int .u8 b.toNat:=by
 induction l with
 |nil=>rfl
 |cons b l aC=>show Value.int .u8 (.ofNat b.toNat)::strCells l=_;rw[aC];rfl
def aw.auT{H H1:aw}{cells:List Value}{e:TypeId}{sh:Bool}{id:Nat}(aA:H.pA cells e sh=some (id,H1)):H1.ao=H.ao+1:=by
 unfold aw.pA at aA;cases ay:H.xC with
 |none=>rw[ay] at aA;cases aA
 |some p=>
  obtain⟨f,bT⟩:=p;rw[ay] at aA;have ae:=(aw.p4 aA).2.1;have ag:=(aw.Ot ay).2.1;omega
def anv{src dst:TypeId}{s:ByteArray}{v:Value}{H1:aw}(he:yB P H src dst s=some (v,H1)):H1.ao=H.ao+1:=by
 unfold yB at he;split at he
 ·split at he
  ·rename_i e _ _ _ _;cases ak:Nat.beq (P.cellsOf e) 1 with
   |false=>rw[ak] at he;cases he
   |true=>
    rw[ak,cd] at he;cases aA:H.pA (strCells s.data.toList) e true with
    |none=>rw[aA] at he;cases he
    |some p=>
     obtain⟨id,bT⟩:=p;rw[aA] at he;have he:some (Value.slice (some ⟨id,0,none⟩) s.data.toList.length cK,bT)=some (v,H1):=he;simp only[cb,c8] at he;obtain⟨_,rfl⟩:=he;exact aw.auT aA
  ·cases he
 ·cases he
def anw(h:bZ P B w0 μ H w){src dst:TypeId}{s:ByteArray}{v:Value}{H1:aw}(he:yB P H src dst s=some (v,H1)):
 ∃v' a' bh,(convert src dst (.string s)).run P w=.ok v' a'/\bZ P B w0 bh H1 a'/\Step μ bh H H1/\bk bh v v':=by
 unfold yB at he;split at he
 ·rename_i e ae ag;split at he
  ·rename_i aE;cases ak:Nat.beq (P.cellsOf e) 1 with
   |false=>rw[ak] at he;cases he
   |true=>
    rw[ak,cd] at he;cases aA:H.pA (strCells s.data.toList) e true with
    |none=>rw[aA] at he;cases he
    |some p=>
     obtain⟨id,bT⟩:=p;rw[aA] at he;have he:some (Value.slice (some ⟨id,0,none⟩) s.data.toList.length cK,bT)=some (v,H1):=he;simp only[cb,c8] at he;obtain⟨rfl,rfl⟩:=he;have Na:=eM ak;have ln:=grownCap_ge w s.size 0 e;have en:s.size=s.data.toList.length:=by rw[Array.length_toList];rfl
     have mb:(bytesRow s (grownCap w s.size 0 e)).size=grownCap w s.size 0 e:=by
      unfold bytesRow;have:s.data.size=s.size:=rfl;simp[this];omega
     obtain⟨ba,br,rfl⟩:=h.drew.U8 (o:=.cells (bytesRow s (grownCap w s.size 0 e)) e ((bytesRow s (grownCap w s.size 0 e)).size,(bytesRow s (grownCap w s.size 0 e)).size+1)) (L:=⟨w.heap.size,grownCap w s.size 0 e,1⟩) aA I (fun f=>by
      refine⟨I,mb,Na,?_,(fun q=>by cases q),fun i u je x y=>?_,⟨fun off al ae ag=>?_,(fun q=>by cases q)⟩⟩
      ·rw[strCells_eq,e9,<-en];exact ln
      ·rw[strCells_eq,h'] at x;obtain⟨b,sJ,rfl⟩:=ri.1 x;have hi:i<s.data.size:=by
        have:=(dO.1 sJ).1;simpa using this
       unfold bytesRow at y;rw[Xq,aP (by simpa using hi)] at y;rw[Array.getElem?_map,<-Array.getElem?_toList,sJ] at y;simp only[Lz,cb] at y;subst y;exact .atom _ I
      ·rw[mb] at ae;show off<0;have:off<grownCap w s.size 0 e:=al;omega)
     refine⟨_,_,_,run_bytes_of_string w src dst e s ae ag aE,ba,br,?_⟩;rw[<-en];exact .q9 H.ao 0 s.size _ ⟨w.heap.size,grownCap w s.size 0 e,1⟩ (bU.k9 _ _ _) ln (by simp)
  ·cases he
 ·cases he
end
section
variable {P:Program}{B:Nat->Prop}{w0 w:World}{μ:bU}{H H':aw}{T:aZ Value}{n:Nat}{tmps:Array Value}
def dk(tmps:Array Value):Operand->Value
 |.tmp t=>tmps.getD t undef
 |.const v=>v
 |.global g=>.pointer (some ⟨g,0,none⟩)
 |.func f=>.func (.func f) #[] #[]
def vN(h:bZ P B w0 μ H w)(aM:lj μ T n tmps){x:Operand}{v:Value}(he:a5 T H x=some v):bk μ v (dk tmps x):=by
 cases x with
 |tmp t=>exact aM.2 t v he
 |const c=>
  have he:(bif plain c then some c else none)=some v:=he;cases ap:plain c with
  |false=>rw[ap] at he;simp at he
  |true=>rw[ap] at he;simp at he;subst he;exact q1 ap
 |global g=>
  have he:F7 H g=some v:=he;unfold F7 at he;cases aB:Nat.blt g H.bJ with
  |false=>rw[aB] at he;simp at he
  |true=>
   rw[aB,cd] at he;have aB:g<H.bJ:=iE aB;cases hm:H.mem.get g with
   |none=>rw[hm] at he;simp at he
   |some b=>
    rw[hm] at he;cases b with
    |row c e o f z s=>
     simp only[cb] at he;subst he;obtain⟨L,bi⟩:=h.vd g c e o f z s aB hm;have:=bk.ptr (μ:=μ) g 0 L bi;rw[h.own g L bi aB] at this;exact this
    |_=>simp at he
 |func f=>
  have he:some (Value.func (.func f) #[] #[])=some v:=he;injection he with he;subst he
  exact .func _ _ _ _ _ I I I (fun i v v' q=>by simp at q) (fun i v v' q=>by simp at q)
def Km(h:bZ P B w0 μ H w)(aM:lj μ T n tmps):∀{l:List Operand} {vs:List Value},gp T H l=some vs->bW μ vs (l.map (dk tmps)):=by
 intro l;induction l with
 |nil=>intro vs he;simp[gp] at he;subst he;exact bW.nil _
 |cons x l aC=>
  intro vs he;simp only[gp] at he;cases U:a5 T H x with
  |none=>rw[U] at he;simp at he
  |some v=>
   rw[U] at he;cases aj:gp T H l with
   |none=>rw[aj] at he;simp at he
   |some r=>rw[aj] at he;simp at he;subst he;exact bW.cons (vN h aM U) (aC aj)
def av5:∀{l:List Operand} {vs:List Value},gp T H l=some vs->∀x∈l,∃v,a5 T H x=some v/\v∈vs:=by
 intro l;induction l with
 |nil=>intro vs he x U;simp at U
 |cons y l aC=>
  intro vs he x U;simp only[gp] at he;cases an:a5 T H y with
  |none=>rw[an] at he;simp at he
  |some v=>
   rw[an] at he;cases aj:gp T H l with
   |none=>rw[aj] at he;simp at he
   |some r=>
    rw[aj] at he;simp at he;subst he;rcases fs.1 U with rfl|U
    ·exact⟨v,an,by simp⟩
    ·obtain⟨u,a,b⟩:=aC aj x U;exact⟨u,a,by simp[b]⟩
def aeP(h:bZ P B w0 μ H w)(aM:lj μ T n tmps):∀{l:List (Nat×Operand)} {ps:List (Nat×Value)},mH T H l=some ps->ya μ ps (l.map fun(i,x)=>(i,dk tmps x)):=by
 intro l;induction l with
 |nil=>intro vs he;simp[mH] at he;subst he;exact⟨I,fun i p iK q=>by simp at q⟩
 |cons x l aC=>
  intro vs he;obtain⟨i,x⟩:=x;simp only[mH] at he;cases U:a5 T H x with
  |none=>rw[U] at he;simp at he
  |some v=>
   rw[U] at he;cases aj:mH T H l with
   |none=>rw[aj] at he;simp at he
   |some r=>
    rw[aj] at he;simp at he;subst he;have:=aC aj;refine⟨by simp[this.1],fun j p iK q dE=>?_⟩;cases j with
    |zero=>simp at q dE;subst q;subst dE;exact⟨I,vN h aM U⟩
    |succ j=>exact this.2 j p iK (by simpa using q) (by simpa using dE)
def pd(P:Program)(B:Nat->Prop)(w0:World)(call:eW)(aO:hX)(μ:bU)(H:aw)(w:World)(s:Sem Next):cY->Prop
 |.val v H'=>(∃v' a' bh,s.run P w=.ok (.value v') a'/\bZ P B w0 bh H' a'/\Step μ bh H H'/\bk bh v v')\/
  (∃f args bV,s.run P w=(callFunc f bV.toArray).run P w/\bW μ args bV/\call f args H=some (.returned v,H'))\/
  (∃l L args bV,μ l=some L/\s.run P w=(Instr.yield L.r bV.toArray).run P w/\bW μ args bV/\aO l args H=some (.returned v,H'))
 |.skip H'=>∃a',s.run P w=.ok .skip a'/\bZ P B w0 μ H' a'/\Step μ μ H H'
 |.g6 d=>∃fv cap ew args bV,d={target:=.fn fv cap,args:=args.toArray}/\s.run P w=.ok (.defer {target:=.fn fv ew,args:=bV.toArray}) w/\zm fv=true/\bW μ cap.toList ew.toList/\bW μ args bV
 |.gN chain H'=>(∃v v',chain=[{v:=v,recovered:=false}]/\H'=H/\s.run P w=.halt (.panic v') w/\bk μ v v')\/
  (∃f args bV,s.run P w=(callFunc f bV.toArray).run P w/\bW μ args bV/\call f args H=some (.panicked chain,H'))\/
  (∃l L args bV,μ l=some L/\s.run P w=(Instr.yield L.r bV.toArray).run P w/\bW μ args bV/\aO l args H=some (.panicked chain,H'))
 |.A4=>s.run P w=.ok .recover w
variable {call:eW}{aO:hX}{o:Oper}{S:aY}
def qY{s:Sem Value}{x:Option Value}{r:cY}(h:bZ P B w0 μ H w)(hs:∀v,x=some v->∃v',s.run P w=.ok v' w/\bk μ v v')(he:hH x H=some r):
 pd P B w0 call aO μ H w (do pure (.value (<-s))) r:=by
 cases x with
 |none=>cases he
 |some v=>
  have he:some (cY.val v H)=some r:=he;injection he with he;subst he
  obtain⟨v',a,b⟩:=hs v I;exact .inl ⟨v',w,μ,by simp[a],h,Step.refl _ _,b⟩
def zs{s:Sem Value}{x:Option (Value×aw)}{r:cY}(hs:∀v H',x=some (v,H')->∃v' a' bh,s.run P w=.ok v' a'/\bZ P B w0 bh H' a'/\Step μ bh H H'/\bk bh v v')(he:ou x=some r):
 pd P B w0 call aO μ H w (do pure (.value (<-s))) r:=by
 cases x with
 |none=>cases he
 |some p=>
  obtain⟨v,H'⟩:=p;have he:some (cY.val v H')=some r:=he;injection he with he;subst he
  obtain⟨v',a',bh,a,b,c,d⟩:=hs v H' I;exact .inl ⟨v',a',bh,by simp[a],b,c,d⟩
def avX{s:Sem Unit}{x:Option aw}{r:cY}(hs:∀H',x=some H'->∃a',s.run P w=.ok () a'/\bZ P B w0 μ H' a'/\Step μ μ H H')(he:M1 x=some r):
 pd P B w0 call aO μ H w (do s;pure .skip) r:=by
 cases x with
 |none=>cases he
 |some H'=>
  have he:some (cY.skip H')=some r:=he;injection he with he;subst he
  obtain⟨a',a,b,c⟩:=hs H' I;exact⟨a',by simp[a],b,c⟩
def Ig(h:bZ P B w0 μ H w)(aM:lj μ T n tmps)(Ui:∀cs b,o.op≠.select cs b){r:cY}(he:fQ P T H o=some r):pd P B w0 call aO μ H w (execOp (dk tmps) o) r:=by
 unfold fQ at he;cases al:gp T H o.op.operands.toList with
 |none=>rw[al] at he;simp at he
 |some vs=>
  rw[al] at he;simp only at he;cases ap:vs.all plain with
  |false=>rw[ap] at he;simp at he
  |true=>
   rw[ap,cd] at he;have ap3:execOp (s' T H) o=execOp (dk tmps) o:=execOp_congr o Ui fun x U=>by
    obtain⟨v,a,b⟩:=av5 al x (by simpa using U);unfold s';rw[a];exact(OS (sf.1 ap v b) (vN h aM a)).symm
   rw[ap3] at he;cases hD:fw P (execOp (dk tmps) o) with
   |none=>rw[hD] at he;simp at he
   |some ao=>
    rw[hD] at he;have hE:=aac hD w;cases ao with
    |value v=>
     simp only at he;cases az:plain v with
     |false=>rw[az] at he;simp at he
     |true=>
      rw[az,cd] at he;simp only[cb] at he;subst he;exact .inl ⟨v,w,μ,hE,h,Step.refl _ _,q1 az⟩
    |skip=>
     simp only[cb] at he;subst he;exact⟨w,hE,h,Step.refl _ _⟩
    |_=>simp at he
end
section
variable {P:Program}{B:Nat->Prop}{w0 w:World}{μ:bU}{H H':aw}{n:Nat}{tmps:Array Value}
variable {call:eW}{aO:hX}{o:Oper}{S:aY}
def w1{α:Type}(n:Int)(k:Int->α):sA n k=k n:=by
 cases n with
 |ofNat m=>cases m<;>rfl
 |negSucc m=>cases m<;>rfl
def Gz(k:IntKind)(n:Int):Bn k n=k.wrap n:=by
 unfold Bn;cases n with
 |ofNat m=>
  simp only
  cases ak:Nat.blt m (vD k) with
  |false=>rfl
  |true=>
   have ak:m<vD k:=iE ak;simp only[cd];cases k<;>simp only[vD] at ak<;>simp[IntKind.wrap,IntKind.bits,IntKind.signed]<;>omega
 |negSucc m=>
  simp only
  cases ak:(k.signed&&Nat.blt m (vD k)) with
  |false=>rfl
  |true=>
   simp only[gQ] at ak;have hs:=ak.1;have ak:m<vD k:=iE ak.2;simp only[cd];cases k with
   |i64=>simp only[vD] at ak;rw[IntKind.wrap_i64,Int.negSucc_eq];omega
   |i32=>simp only[vD] at ak;rw[IntKind.wrap_i32,Int.negSucc_eq];omega
   |i8=>simp[vD] at ak
   |i16=>simp[vD] at ak
   |_=>cases hs
def Fz(a b:Int):rU a b=decide (a<b):=by
 cases a with
 |ofNat a=>cases b with
  |ofNat b=>
   simp only[rU];have:Nat.blt a b=decide (a<b):=by
    by_cases h:a<b
    ·rw[lm h];exact nc h
    ·rw[g5 h];cases q:Nat.blt a b
     ·rfl
     ·exact absurd (iE q) h
   rw[this];simp
  |negSucc b=>simp[rU];omega
 |negSucc a=>cases b with
  |ofNat b=>simp[rU];omega
  |negSucc b=>
   simp only[rU];by_cases h:b<a
   ·have:Nat.blt b a=true:=nc h;rw[this,eq_comm,Mr];omega
   ·have:Nat.blt b a=false:=by
     cases q:Nat.blt b a
     ·rfl
     ·exact absurd (iE q) h
    rw[this,eq_comm,RA];omega
def Fy(a b:Int):rT a b=(a==b):=by
 rw[rc,beq_iff_eq];cases a with
 |ofNat a=>cases b with
  |ofNat b=>simp only[rT];constructor
            ·intro h;rw[eM h]
            ·intro h;injection h with h;rw[h];exact ix b
  |negSucc b=>simp[rT]
 |negSucc a=>cases b with
  |ofNat b=>simp[rT]
  |negSucc b=>simp only[rT];constructor
              ·intro h;rw[eM h]
              ·intro h;injection h with h;rw[h];exact ix b
def ac7{a b:IntKind}(h:ny a b=true):a=b:=by cases a<;>cases b<;>first|rfl|cases h
def A5(H:aw)(b:Bool):zy H b=some (.val (.bool b) H):=by cases b<;>rfl
def asY(h:bZ P B w0 μ H w){k:IntKind}{a b:Int}{Bc:Option cY}{op:BinOp}{t:TypeId}{x y:Operand}{r:cY}(U:dk tmps x=.int k a)(an:dk tmps y=.int k b)(al:∃PR,o.op=.binOp op t x y PR)
 (Fo:Bc=some r->pd P B w0 call aO μ H w (execOp (dk tmps) o) r)(he:kf H k a b Bc op=some r):pd P B w0 call aO μ H w (execOp (dk tmps) o) r:=by
 obtain⟨PR,al⟩:=al;have aB:(eqGuard op t x y (.int k a) (.int k b)).run P w=.ok () w:=by cases op<;>simp[eqGuard]
 have fin:∀v,(binOp op t (.int k a) (.int k b)).run P w=.ok v w->isAtom v=true->some (cY.val v H)=some r->pd P B w0 call aO μ H w (execOp (dk tmps) o) r:=by
  intro v az aI ar;injection ar with ar;subst ar
  refine .inl ⟨v,w,μ,?_,h,Step.refl _ _,.atom _ aI⟩;simp[execOp,al,U,an,aB,az]
 cases op with
 |add=>simp only[kf,w1,Gz,q6] at he;exact fin _ (by simp[binOp,Op.intArith]) I he
 |sub=>simp only[kf,w1,Gz,q6] at he;exact fin _ (by simp[binOp,Op.intArith]) I he
 |mul=>simp only[kf,w1,Gz,q6] at he;exact fin _ (by simp[binOp,Op.intArith]) I he
 |eql=>simp only[kf,A5,Fy] at he;exact fin _ (by simp[binOp,Op.intCmp]) I he
 |neq=>simp only[kf,A5,Fy] at he;exact fin _ (by simp[binOp,Op.intCmp,bne]) I he
 |lss=>simp only[kf,A5,Fz] at he;exact fin _ (by simp[binOp,Op.intCmp]) I he
 |leq=>simp only[kf,A5,Fz] at he;exact fin _ (by simp[binOp,Op.intCmp];rw[<-decide_not];exact u3.2 (by omega)) I he
 |gtr=>simp only[kf,A5,Fz] at he;exact fin _ (by simp[binOp,Op.intCmp]) I he
 |geq=>simp only[kf,A5,Fz] at he;exact fin _ (by simp[binOp,Op.intCmp];rw[<-decide_not];exact u3.2 (by omega)) I he
 |_=>exact Fo he
def bk.EO{fn:Fn}{a b:Array Value}{v:Value}(h:bk μ (.func fn a b) v):
 (∃bD b',v=.func fn bD b'/\zm fn=true/\bW μ a.toList bD.toList/\bW μ b.toList b'.toList)\/(∃l L,fn=.yield l/\μ l=some L/\a=#[]/\b=#[]/\v=.func (.yield L.r) #[] #[]):=by
 cases h with
 |atom _ q=>simp[isAtom] at q
 |func fn a b bD b' an aI ak Nz rO=>
  exact .inl ⟨bD,b',I,an,⟨by simpa using aI,fun i v v' x y=>Nz i v v' (by simpa using x) (by simpa using y)⟩,⟨by simpa using ak,fun i v v' x y=>rO i v v' (by simpa using x) (by simpa using y)⟩⟩
 |yield l L bi=>exact .inr ⟨l,L,I,bi,I,I,I⟩
def Mw{recv recv':Value}{name:String}{rest zx:List Value}{f:FuncId}{bP:List Value}(ar:bk μ recv recv')(aj:bW μ rest zx)(he:Aj P H recv name rest=some (f,bP)):
 ∃jF,(callMethod recv' name zx.toArray).run P w=(callFunc f jF.toArray).run P w/\bW μ bP jF:=by
 unfold Aj at he;cases recv with
 |iface t v=>
  obtain⟨v',rfl,az⟩:=ar.y9;simp only at he;cases hi:P.info? t with
  |none=>rw[hi] at he;simp at he
  |some i=>
   rw[hi] at he;simp only at he;cases hm:i.methods.find? (·.name==name) with
   |none=>rw[hm] at he;simp at he
   |some m=>
    rw[hm] at he;simp only at he;cases ap:m.path.isEmpty with
    |false=>rw[ap] at he;simp at he
    |true=>
     rw[ap] at he;simp only[ow,dQ] at he;have arz:m.path=#[]:=by simpa using ap
     cases ay:m.func with
     |none=>rw[ay] at he;simp at he
     |some q=>
      obtain⟨g,tb⟩:=q;rw[ay] at he;simp only at he;have key:∀je,(∀J',(receiverAt t (.val v') tb J').run P w=.ok je w)->f=g->(callMethod (.iface t v') name zx.toArray).run P w=(callFunc f (je::zx).toArray).run P w:=by
       intro je Jv aqu;subst aqu;have ara:(method (P.types.size+Made.depth) t v' name).run P w=.ok (f,je) w:=by
        have:P.types.size+Made.depth=(P.types.size+99)+1:=rfl;rw[this];generalize P.types.size+99=k;simp[method,typeInfo,hi,hm,arz,follow,ay,Jv]
       simp[callMethod,ara]
      cases hu:P.underlying t with
      |none=>rw[hu] at he;simp at he
      |some d=>
       rw[hu] at he;cases d with
       |pointer elem=>
        cases tb with
        |true=>
         simp only[cb,c8] at he;obtain⟨rfl,rfl⟩:=he;exact⟨v'::zx,key v' (fun J'=>by simp[receiverAt,fo hu,Place.get]) I,bW.cons az aj⟩
        |false=>simp at he
       |_=>
        cases tb with
        |true=>simp at he
        |false=>
         simp only[cb,c8] at he;obtain⟨rfl,rfl⟩:=he;exact⟨v'::zx,key v' (fun J'=>by simp[receiverAt,fo hu,Place.get]) I,bW.cons az aj⟩
 |_=>simp at he
def RS{fn:Fn}{args bV cap ew:List Value}{f:FuncId}{bP:List Value}(aI:bW μ args bV)(ax:bW μ cap ew)(he:kY P H fn args cap=some (f,bP)):
 ∃jF,(invoke (.fn fn ew.toArray) bV.toArray).run P w=(callFunc f jF.toArray).run P w/\bW μ bP jF:=by
 unfold kY at he;cases fn with
 |func g=>
  simp only[cb,c8] at he;obtain⟨rfl,rfl⟩:=he;refine⟨bV++ew,?_,aI.append ax⟩;simp[invoke]
 |method name=>
  cases args with
  |nil=>simp at he
  |cons r rest=>
   obtain⟨cu,zx,rfl,ae,ag⟩:=aI.kg;obtain⟨jF,a,b⟩:=Mw (w:=w) ae ag he;refine⟨jF,?_,b⟩;rw[<-a];simp[invoke]
 |methodOf t name=>
  cases args with
  |nil=>simp at he
  |cons r rest=>
   obtain⟨cu,zx,rfl,ae,ag⟩:=aI.kg;simp only at he;cases hu:P.underlying t with
   |none=>rw[hu] at he;simp at he
   |some d=>
    rw[hu] at he;by_cases av:∃Ol,d=.interface Ol
    ·obtain⟨Ol,rfl⟩:=av;obtain⟨jF,a,b⟩:=Mw (w:=w) ae ag he;refine⟨jF,?_,b⟩;rw[<-a];simp[invoke,fo hu]
    ·have rF:Aj P H (.iface t r) name rest=some (f,bP):=by
      cases d<;>first|exact he|exact absurd ⟨_,I⟩ av
     obtain⟨jF,a,b⟩:=Mw (w:=w) (.iface t r cu ae) ag rF;refine⟨jF,?_,b⟩;rw[<-a];cases d<;>first|exact absurd ⟨_,I⟩ av|simp[invoke,fo hu]
 |_=>simp at he
def Z7(h:bZ P B w0 μ H w)(aM:lj μ S.T n tmps){c:Call}{r:cY}(ax:o.op=.call c)(AB:∀b,c.callee≠.builtin b)(he:nj P call aO S.T H c=some r):pd P B w0 call aO μ H w (execOp (dk tmps) o) r:=by
 unfold nj at he;have qI:∀args,gp S.T H c.args.toList=some args->bW μ args (c.args.map (dk tmps)).toList:=fun args q=>by
  have:=Km h aM q;simpa using this
 have fin:∀f bP jF,(execOp (dk tmps) o).run P w=(callFunc f jF.toArray).run P w->bW μ bP jF->oL (call f bP H)=some r->pd P B w0 call aO μ H w (execOp (dk tmps) o) r:=by
  intro f bP jF ae ag aE;cases gT:call f bP H with
  |none=>rw[gT] at aE;simp[oL] at aE
  |some p=>
   obtain⟨e,H1⟩:=p;rw[gT] at aE;cases e with
   |returned v=>simp[oL] at aE;subst aE;exact .inr (.inl ⟨f,bP,jF,ae,ag,gT⟩)
   |panicked bx=>simp[oL] at aE;subst aE;exact .inr (.inl ⟨f,bP,jF,ae,ag,gT⟩)
   |outgrown=>simp[oL] at aE
 cases aI:gp S.T H c.args.toList with
 |none=>rw[aI] at he;simp at he
 |some args=>
  rw[aI] at he;simp only at he;have aj:=qI args aI;cases nT:c.callee with
  |builtin b=>exact absurd nT (AB b)
  |invoke recv name=>
   rw[nT] at he;simp only at he;cases ar:a5 S.T H recv with
   |none=>rw[ar] at he;simp at he
   |some rv=>
    rw[ar] at he;simp only at he;cases hm:Aj P H rv name args with
    |none=>rw[hm] at he;simp at he
    |some p=>
     obtain⟨f,bP⟩:=p;rw[hm] at he;obtain⟨jF,ba,br⟩:=Mw (w:=w) (vN h aM ar) aj hm;refine fin f bP jF ?_ br he;rw[<-ba];have kz:(#[dk tmps recv]++Array.map (dk tmps) c.args)[0]?=some (dk tmps recv):=by rw[ahZ (by simp)];rfl
     have aF:(Array.map (dk tmps) c.args).extract 0 c.args.size=(List.map (dk tmps) c.args.toList).toArray:=by apply r9;simp;exact ft (by simp)
     simp[execOp,ax,resolve,nT,invoke,kz,aF]
  |value R3=>
   rw[nT] at he;simp only at he;cases ay:a5 S.T H R3 with
   |none=>rw[ay] at he;simp at he
   |some fv=>
    rw[ay] at he;have lJ:=vN h aM ay;cases fv with
    |func fn first captured=>
     rcases lJ.EO with⟨bD,b',az,vv,ae,ag⟩|⟨l,L,rfl,bi,rfl,rfl,az⟩
     ·have rF:(match kY P H fn (first.toList++args) captured.toList with|some (f,bP)=>oL (call f bP H)|none=>none)=some r:=by
       cases fn<;>first|exact he|(simp[zm] at vv)
      cases hm:kY P H fn (first.toList++args) captured.toList with
      |none=>rw[hm] at rF;simp at rF
      |some p=>
       obtain⟨f,bP⟩:=p;rw[hm] at rF;obtain⟨jF,ba,br⟩:=RS (w:=w) (ae.append aj) ag hm;refine fin f bP jF ?_ br rF;rw[<-ba];have aF:(bD.toList++(c.args.map (dk tmps)).toList).toArray=bD++c.args.map (dk tmps):=by apply r9;simp
       have aV:b'.toList.toArray=b':=by simp
       rw[aF,aV];simp[execOp,ax,resolve,nT,Deferred.ofValue,az]
     ·simp only[Array.isEmpty_empty,zM,cd] at he;cases an:aO l args H with
      |none=>rw[an] at he;simp[GF] at he
      |some p=>
       obtain⟨e,H1⟩:=p;rw[an] at he;cases e with
       |returned v=>
        simp[GF] at he;subst he;refine .inr (.inr ⟨l,L,args,(c.args.map (dk tmps)).toList,bi,?_,aj,an⟩);have aF:(List.map (dk tmps) c.args.toList).toArray=c.args.map (dk tmps):=by apply r9;simp
        simp[execOp,ax,resolve,nT,Deferred.ofValue,az,invoke,aF]
       |panicked bx=>
        simp[GF] at he;subst he;refine .inr (.inr ⟨l,L,args,(c.args.map (dk tmps)).toList,bi,?_,aj,an⟩);have aF:(List.map (dk tmps) c.args.toList).toArray=c.args.map (dk tmps):=by apply r9;simp
        simp[execOp,ax,resolve,nT,Deferred.ofValue,az,invoke,aF]
       |outgrown=>simp[GF] at he
    |_=>simp at he
def as6{α:Type}{l:List α}(h:isNil l=true):l=[]:=by
 cases l with
 |nil=>rfl
 |cons a l=>cases h
def alU{α:Type}(k:Nat)(l:List α):yr (k+1) l=Option.rec (motive:=fun _=>Option (List α)) none (yr k) (yr k l):=rfl
def alT{α:Type}:∀{k:Nat} {l r:List α},yr k l=some r->l.length=2 ^ k+r.length:=by
 intro k;induction k with
 |zero=>
  intro l r h;cases l with
  |nil=>cases h
  |cons v l=>
   have h:some l=some r:=h;injection h with h;subst h;simp;omega
 |succ k aC=>
  intro l r h;rw[alU] at h;cases ae:yr k l with
  |none=>rw[ae] at h;cases h
  |some m=>
   rw[ae] at h;have h:yr k m=some r:=h;have aF:=aC ae;have aV:=aC h;rw[lz];omega
def alZ{α:Type}(k n:Nat)(l:List α):BP (k+1) n l=Option.rec (motive:=fun _=>Option Nat) (BP k n l) (fun r=>BP k (Nat.add n (Nat.pow 2 k)) r) (yr k l):=rfl
def ZA{α:Type}:∀{k n m:Nat} {l:List α},BP k n l=some m->m=n+l.length:=by
 intro k;induction k with
 |zero=>
  intro n m l h;have h:Bool.rec (motive:=fun _=>Option Nat) none (some n) (isNil l)=some m:=h;cases aA:isNil l with
  |false=>rw[aA] at h;cases h
  |true=>rw[aA] at h;injection h with h;rw[as6 aA];simp[h]
 |succ k aC=>
  intro n m l h;rw[alZ] at h;cases ae:yr k l with
  |none=>rw[ae] at h;exact aC h
  |some r=>
   rw[ae] at h;have h:BP k (n+2 ^ k) r=some m:=h;have aF:=alT ae;have aV:=aC h;omega
def atA{α:Type}{l:List α}{n:Nat}(h:N8 l=some n):n=l.length:=by
 unfold N8 at h;cases ak:isNil (qH 256 l) with
 |true=>rw[ak,cd] at h;injection h with h;exact h.symm
 |false=>
  rw[ak,dQ] at h;split at h
  ·rename_i m hm;injection h with h;subst h
   have:=ZA hm;omega
  ·split at h
   ·rename_i m hm;injection h with h;subst h
    have:=ZA hm;omega
   ·injection h with h;exact h.symm
def aeH(h:bZ P B w0 μ H w){T:aZ Value}(aM:lj μ T n tmps){x:Option Operand}{v:Option Value}(he:iT T H x=some v):He μ v (x.map (dk tmps)):=by
 cases x with
 |none=>simp[iT] at he;subst he;trivial
 |some x=>
  simp only[iT] at he;cases U:a5 T H x with
  |none=>rw[U] at he;simp at he
  |some u=>rw[U] at he;simp at he;subst he;exact vN h aM U
def am9(h:bZ P B w0 μ H w)(aM:lj μ S.T n tmps){c:Call}{b:Builtin}{r:cY}(ax:o.op=.call c)(ak:c.callee=.builtin b)(he:tB P S H o b c=some r):pd P B w0 call aO μ H w (execOp (dk tmps) o) r:=by
 have Ui:∀cs b,o.op≠.select cs b:=fun cs b q=>by rw[ax] at q;cases q
 have tT:fQ P S.T H o=some r->pd P B w0 call aO μ H w (execOp (dk tmps) o) r:=Ig h aM Ui;obtain⟨cs,hex⟩:∃cs,execOp (dk tmps) o=builtin b c.argTypes o.type cs (c.args.map (dk tmps)):=⟨_,by simp[execOp,ax,resolve,ak,invoke];rfl⟩;unfold tB at he;cases aI:gp S.T H c.args.toList with
 |none=>rw[aI] at he;simp at he
 |some args=>
  rw[aI] at he;have aj:bW μ args (c.args.map (dk tmps)).toList:=by have:=Km h aM aI;simpa using this
  simp only at he;have w7:∀l,(c.args.map (dk tmps)).toList=l->c.args.map (dk tmps)=l.toArray:=fun l q=>by rw[<-q]
  have AF:∀l,c.argTypes.toList=l->c.argTypes=l.toArray:=fun l q=>by rw[<-q]
  split at he
  ·--len of a slice
   rename_i a m yq t ke;split at he
   ·rename_i e hu;injection he with he;subst he
    obtain⟨v',a9,aF,ae,ag⟩:=aj.kg;have:=ag.mf;subst this;refine .inl ⟨.int .i64 m,w,μ,?_,h,Step.refl _ _,.atom _ I⟩;rw[hex,w7 _ aF,AF _ ke];cases a with
    |none=>rw[ae.uy];simp[builtin,Builtin.len_,fo hu,goInt]
    |some a=>obtain⟨_,_,rfl⟩:=ae.Bb;simp[builtin,Builtin.len_,fo hu,goInt]
   ·cases he
  ·--len of a map
   rename_i cf t ke;split at he
   ·rename_i k e hu;split at he
    ·rename_i es clock hm;injection he with he;subst he
     obtain⟨v',a9,aF,ae,ag⟩:=aj.kg;have:=ag.mf;subst this;obtain⟨L,bi,rfl⟩:=ae.JV;obtain⟨oM,Mi,ca,b7⟩:=h.map bi hm;have yS:(getObj L.r).run P w=.ok (.map oM Mi) w:=by simp[getObj,Sem.run,ca]
     have hlen:oM.size=es.length:=by have:=b7.length;simp at this;omega
     refine .inl ⟨.int .i64 es.length,w,μ,?_,h,Step.refl _ _,.atom _ I⟩;rw[hex,w7 _ aF,AF _ ke];simp[builtin,Builtin.len_,fo hu,goInt,yS,hlen]
    ·cases he
   ·cases he
  ·--len of a string
   rename_i s t ke;split at he
   ·rename_i hu;have he:some (cY.val (.int .i64 s.data.toList.length) H)=some r:=by
     cases hle:N8 s.data.toList with
     |none=>rw[hle] at he;cases he
     |some n=>
      rw[hle] at he;simp only at he;rw[w1] at he;rw[<-atA hle];exact he
    injection he with he;subst he
    obtain⟨v',a9,aF,ae,ag⟩:=aj.kg;have:=ag.mf;subst this;have hE:(Builtin.len_ #[t] o.type #[.string s]).run P w=.ok (goInt s.size) w:=by simp[Builtin.len_,fo hu]
    refine .inl ⟨goInt s.size,w,μ,?_,h,Step.refl _ _,.atom _ I⟩;rw[hex,w7 _ aF,AF _ ke,ae.KE];simp[builtin,hE]
   ·cases he
  ·--append
   rename_i s x ts iA ke;split at he
   ·cases he
   ·rename_i d av hu;obtain⟨v',a9,aF,ae,ag⟩:=aj.kg;obtain⟨KN,N4,rfl,aE,a6⟩:=ag.kg;have:=a6.mf;subst this;have:=zs (call:=call) (aO:=aO) (s:=Builtin.append_ #[ts,iA] o.type #[v',KN]) (fun v H' q=>am6 h ae aE hu (fun k q=>av k q) q) he;rw[hex,w7 _ aF,AF _ ke];exact this
   ·cases he
  ·--cap
   rename_i a m yq t ke;split at he
   ·rename_i e hu;cases eF:Nat.beq yq cK with
    |true=>rw[eF] at he;cases he
    |false=>
     rw[eF,dQ] at he;injection he with he;subst he
     obtain⟨v',a9,aF,ae,ag⟩:=aj.kg;have:=ag.mf;subst this;have c7:yq≠cK:=fun q=>by rw[q,ix] at eF;cases eF
     obtain⟨bD,rfl⟩:=ae.ayF c7;refine .inl ⟨.int .i64 yq,w,μ,?_,h,Step.refl _ _,.atom _ I⟩;rw[hex,w7 _ aF,AF _ ke];simp[builtin,Builtin.cap_,fo hu,goInt]
   ·cases he
  ·--vY aFP data
   rename_i a m yq;cases eF:(Nat.beq yq cK&&Nat.beq m 0) with
   |true=>rw[eF] at he;cases he
   |false=>
    rw[eF,dQ] at he;cases my:Nat.beq yq 0 with
    |true=>rw[my] at he;cases he
    |false=>
     rw[my,dQ] at he;injection he with he;subst he
     obtain⟨v',a9,aF,ae,ag⟩:=aj.kg;have:=ag.mf;subst this;have my:yq≠0:=fun q=>by rw[q] at my;cases my
     obtain⟨id,off,L,gM,ew,rfl,bi,rfl,al,_,vp⟩:=ae.xS (.inr (.inr (by omega)));have hm:yq=cK->m≠0:=fun q dE=>by subst q;subst dE;rw[ix] at eF;cases eF
     have oQ:ew≠0/\gM=off:=by
      rcases vp with⟨_,rfl,rfl⟩|⟨q,aH,rfl,_⟩|⟨q,aH,_⟩
      ·exact⟨my,I⟩
      ·exact⟨by have:=hm q;omega,I⟩
      ·exact absurd aH (hm q)
     obtain⟨oQ,rfl⟩:=oQ;refine .inl ⟨.pointer (some ⟨L.r,gM,none⟩),w,μ,?_,h,Step.refl _ _,.ptr id gM L bi⟩;have hE:(Builtin.unsafeSliceData_ c.argTypes o.type #[.slice (some ⟨L.r,gM,none⟩) m ew]).run P w=.ok (.pointer (some ⟨L.r,gM,none⟩)) w:=by
      show((if ew≠0 then pure _ else _:Sem Value)).run P w=_;rw[aP oQ];rfl
     rw[hex,w7 _ aF];simp[builtin,hE]
  ·--a string over bytes
   rename_i p m us it ke;obtain⟨v',a9,aF,ae,ag⟩:=aj.kg;obtain⟨KN,N4,rfl,aE,a6⟩:=ag.kg;have:=a6.mf;subst this;have:=zs (call:=call) (aO:=aO) (s:=Builtin.unsafeString_ #[us,it] o.type #[v',KN]) (fun v H' q=>by
    obtain⟨ba,br,bG,cD,cN,ef⟩:=anC h ae aE q;exact⟨ba,br,μ,bG,cD,cN,ef⟩) he
   rw[hex,w7 _ aF,AF _ ke];exact this
  ·--copy
   rename_i d s tg ts ke;obtain⟨v',a9,aF,ae,ag⟩:=aj.kg;obtain⟨KN,N4,rfl,aE,a6⟩:=ag.kg;have:=a6.mf;subst this;have:=zs (call:=call) (aO:=aO) (s:=Builtin.copy_ #[tg,ts] o.type #[v',KN]) (fun v H' q=>by
    obtain⟨ba,br,bG,cD,cN,ef⟩:=anb h ae aE q;exact⟨ba,br,μ,bG,cD,cN,ef⟩) he
   rw[hex,w7 _ aF,AF _ ke];exact this
  ·--clear
   rename_i x t ke;obtain⟨v',a9,aF,ae,ag⟩:=aj.kg;have:=ag.mf;subst this;have:=zs (call:=call) (aO:=aO) (s:=Builtin.clear_ #[t] o.type #[v']) (fun v H' q=>by
    obtain⟨ba,br,bG,cD,cN,ef⟩:=am' h ae q;exact⟨ba,br,μ,bG,cD,cN,ef⟩) he
   rw[hex,w7 _ aF,AF _ ke];exact this
  ·--panic
   rename_i t v;injection he with he;subst he
   obtain⟨v',a9,aF,ae,ag⟩:=aj.kg;have:=ag.mf;subst this;obtain⟨dy,rfl,U⟩:=ae.y9;refine .inl ⟨.iface t v,.iface t dy,I,I,?_,.iface t v dy U⟩;rw[hex,w7 _ aF];simp[builtin,Instr.panic,goPanic,Sem.run]
  ·--recover
   have aF:=aj.mf;have hE:(execOp (dk tmps) o).run P w=.ok .recover w:=by rw[hex];simp[builtin]
   injection he with he;subst he
   exact hE
  ·exact tT he
def anc(h:bZ P B w0 μ H w)(aM:lj μ S.T n tmps){c:Call}{r:cY}(ax:o.op=.defer c)(he:Ia P S.T H c=some r):pd P B w0 call aO μ H w (execOp (dk tmps) o) r:=by
 unfold Ia at he;cases aI:gp S.T H c.args.toList with
 |none=>rw[aI] at he;simp at he
 |some args=>
  rw[aI] at he;simp only at he;have aj:bW μ args (c.args.map (dk tmps)).toList:=by have:=Km h aM aI;simpa using this
  cases nT:c.callee with
  |builtin b=>rw[nT] at he;simp at he
  |invoke recv name=>
   rw[nT] at he;simp only at he;cases ar:a5 S.T H recv with
   |none=>rw[ar] at he;simp at he
   |some rv=>
    rw[ar] at he;simp only[cb] at he;subst he;refine⟨.method name,#[],#[],rv::args,dk tmps recv::(c.args.map (dk tmps)).toList,I,?_,I,bW.nil _,bW.cons (vN h aM ar) aj⟩;have aF:(dk tmps recv::(c.args.map (dk tmps)).toList).toArray=#[dk tmps recv]++c.args.map (dk tmps):=by apply r9;simp
    rw[aF];simp[execOp,ax,resolve,nT]
  |value R3=>
   rw[nT] at he;simp only at he;cases ay:a5 S.T H R3 with
   |none=>rw[ay] at he;simp at he
   |some fv=>
    rw[ay] at he;have lJ:=vN h aM ay;cases fv with
    |func fn first captured=>
     simp only at he;cases vv:zm fn with
     |false=>rw[vv] at he;simp at he
     |true=>
     rw[vv] at he;simp only[cd,cb] at he;subst he;rcases lJ.EO with⟨bD,b',az,_,ae,ag⟩|⟨l,L,rfl,bi,rfl,rfl,az⟩
     ·refine⟨fn,captured,b',first.toList++args,bD.toList++(c.args.map (dk tmps)).toList,I,?_,vv,ag,ae.append aj⟩;have aF:(bD.toList++(c.args.map (dk tmps)).toList).toArray=bD++c.args.map (dk tmps):=by apply r9;simp
      rw[aF];simp[execOp,ax,resolve,nT,Deferred.ofValue,az]
     ·simp[zm] at vv
    |_=>simp at he
end
end
end Go.Cre

/- A part of the proof of ResumeBack. -/
import Derived.Test.YtiemfjdacfioeaaGreatDoorCae
import Derived.Orders
set_option linter.unusedVariables false
set_option linter.unusedSimpArgs false
namespace Go.Cre
noncomputable section
open Go.RowKit
section
variable {P:Program}{B:Nat->Prop}{w0 w:World}{μ:b1}{H H':aB}
theorem W2{x dT:Value}{m:Nat}(U:bF μ x dT)(hm:rF x=some m)(w:World):(Builtin.lenOf dT).run P w=.ok m w:=by
 cases x with
 |slice a len cap=>
  simp[rF] at hm;subst hm;cases a with
  |none=>rw[U.uI];simp[Builtin.lenOf]
  |some a=>obtain⟨bY,eg,rfl⟩:=U.Cl;simp[Builtin.lenOf]
 |string s=>rw[U.IS];simp[rF] at hm;subst hm;rfl
 |_=>simp[rF] at hm
theorem abA(s:ByteArray)(n:Nat):((s.extract 0 n).data.map fun b=>Value.int .u8 b.toNat)=((s.data.toList.take n).map fun b=>Value.int .u8 b.toNat).toArray:=by
 apply s0
 simp[ByteArray.data_extract]
theorem J5(h:ca P B w0 μ H w){x dT:Value}{sz n m:Nat}{l:List Value}(U:bF μ x dT)(hm:rF x=some m)(aP:n<=m)(he:jM H sz n x=some l):
 ∃l',b4 μ l l'/\∀gm,(Builtin.firstCells sz n dT).run P {w with drawn:=gm}=.ok l'.toArray {w with drawn:=gm}:=by
 cases x with
 |slice a len cap=>
  simp[rF] at hm;subst hm;cases a with
  |none=>
   rw[U.uI];cases n with
   |zero=>simp[jM] at he;subst he;exact⟨[],b4.nil _,fun gm=>by simp[Builtin.firstCells]⟩
   |succ n=>simp[jM] at he
  |some a=>
   cases n with
   |zero=>
    obtain⟨bY,eg,rfl⟩:=U.Cl;simp[jM] at he;subst he;exact⟨[],b4.nil _,fun gm=>by simp[Builtin.firstCells,loadCells,loadCellsFrom]⟩
   |succ n=>
    obtain⟨id,off,L,gb,eg,rfl,bT,rfl,ar,_⟩:=U.x4 (.inr (.inl (by omega)));simp only[jM] at he;rw[ar (by omega)];cases xy:H.mem.get id with
    |none=>rw[xy] at he;simp at he
    |some b=>
     rw[xy] at he;cases b with
     |row cells elem opn bM eB sh=>
      simp only at he;obtain⟨l',g1,g2,g3⟩:=h.cells bT xy he;refine⟨l',g1,fun gm=>?_⟩;exact run_firstCells_some (P:=P) {w with drawn:=gm} sz (n+1) ⟨L.r,off,none⟩ len eg l' (by rw[g2]) (fun j v ba=>by rw[Addr.q3];exact g3 j v ba)
     |_=>simp at he
 |string s=>
  rw[U.IS];simp only[jM] at he;cases aD:takeN n s.data.toList with
  |none=>rw[aD] at he;simp at he
  |some bs=>
   rw[aD] at he;simp only[cp] at he;subst he;obtain⟨aN,bn,cP⟩:=E4 aD;refine⟨bs.map fun b=>.int .u8 b.toNat,b4.IJ fun v az=>?_,fun gm=>?_⟩
   ·obtain⟨b,_,rfl⟩:=As.1 az;exact .atom _ rfl
   ·simp only[Builtin.firstCells,abA,aN];rfl
 |_=>simp[rF] at hm
theorem Q1(t hy eD e:TypeId)(hn:TypeDesc)(i:TypeInfo)(z:Value)(aD:P.underlying t=some (.slice e))(jQ:P.underlying hy=some hn)(xo:∀k,hn≠.int k)(ao:P.info? e=some i)(bN:i.zero=some z)
 (base:Option Addr)(db ic n:Nat)(x:Value)(XP news:List Value)(hlen:∀w,(Builtin.lenOf x).run P w=.ok n w)
 (hold:∀gm,(Builtin.firstCells i.size db (.slice base db ic)).run P {w with drawn:=gm}=.ok XP.toArray {w with drawn:=gm})
 (qk:∀gm,(Builtin.firstCells i.size n x).run P {w with drawn:=gm}=.ok news.toArray {w with drawn:=gm})
 (aq:ic<db+n) (agj:db+n<=1000000) (h':i.bytes<=1000000):
 (Builtin.append_ #[t,hy] eD #[.slice base db ic,x]).run P w=
  .ok (.slice (some ⟨w.heap.size,0,none⟩) (db+n) (grownCap w (db+n) ic e))
   (w.drew.alloc (.cells (XP.toArray++(news.toArray++Builtin.zeroCells z.cells (grownCap w (db+n) ic e -(db+n)))) e)):=by
 have aP:¬(db+n<=ic):=by omega
 have agk:¬(9223372036854775807<((db:Int)+(n:Int))):=by omega
 have hmul:(db+n)*i.bytes<=1000000*1000000:=Ss agj h'
 have agi:¬(281474976710656<Builtin.nextslicecap (db+n) ic*i.bytes):=by
  have:=growslice_fits (bytes:=i.bytes) aq (by omega);omega
 have ar:=hold (w.drawn+1);have hw:=qk (w.drawn+1);have y0:({w with drawn:=w.drawn+1}:World)=w.drew:=rfl;rw[y0] at ar hw;simp[Builtin.append_,run_underlying aD,run_underlying jQ,sizeOf,typeInfo,zeroValue,ao,bN,hlen,aP,agk,agi,Question.forced,hw,ar,newRow,grownCap]
theorem LQ(t hy eD e:TypeId)(hn:TypeDesc)(i:TypeInfo)(aD:P.underlying t=some (.slice e))(jQ:P.underlying hy=some hn)(xo:∀k,hn≠.int k)(ao:P.info? e=some i)
 (base:Option Addr)(db ic n:Nat)(x:Value)(news:List Value)(bu:World)(hlen:∀w,(Builtin.lenOf x).run P w=.ok n w)
 (qk:(Builtin.firstCells i.size n x).run P w=.ok news.toArray w)(aq:db+n<=ic)
 (di:∀a,base=some a->(storeCells (a.add (db*i.size)) news).run P w=.ok () bu)(fy:base=none->bu=w):
 (Builtin.append_ #[t,hy] eD #[.slice base db ic,x]).run P w=.ok (.slice base (db+n) ic) bu:=by
 cases base with
 |none=>
  rw[fy rfl];simp[Builtin.append_,run_underlying aD,run_underlying jQ,sizeOf,typeInfo,ao,hlen,aq,qk]
 |some a=>
  have:=di a rfl;simp[Builtin.append_,run_underlying aD,run_underlying jQ,sizeOf,typeInfo,ao,hlen,aq,qk,this]
end
end
end Go.Cre
namespace Go.Cre
noncomputable section
open Go.RowKit
section
variable {P:Program}{B:Nat->Prop}{w0 w:World}{μ:b1}{H H':aB}
theorem apS(z:Array Value)(n:Nat):(Builtin.zeroCells z n).size=n*z.size:=by simp[Builtin.zeroCells]
theorem N2{a b bY b':List Value}{elem:TypeId}{z:Value}{sz Ih cap f eB r:Nat}{sh:Bool}{bI:b1}(a':b4 bI a bY)(au:b4 bI b b')(eU:P.cellsOf elem=sz)(bN:z.cells.toList.length=sz)(av:(a++b).length=Ih*sz)(qd:Ih<=cap):
 kg P bI ⟨r,cap*sz,sz⟩ (.row (a++b) elem true f eB sh) (.cells (bY.toArray++(b'.toArray++Builtin.zeroCells z.cells (cap -Ih))) elem):=by
 have aH:=a'.append au;have xI:z.cells.size=sz:=by simpa using bN
 have ahg:(bY.toArray++(b'.toArray++Builtin.zeroCells z.cells (cap -Ih)))=(bY++b').toArray++Builtin.zeroCells z.cells (cap -Ih):=by
  apply s0;simp
 rw[ahg];refine⟨rfl,?_,eU,?_,(fun h=>by cases h),fun i v v' a b=>?_,⟨fun off _ aa ae=>by simp at ae,fun _=>.inl rfl⟩⟩
 ·rw[Array.size_append,apS,xI];simp only[Sp];rw[<-aH.1,av,<-nr];congr 1;omega
 ·show(a++b).length<=cap*sz;rw[av];exact nt _ qd
 ·refine aH.2 i v v' a ?_;have ao:i<(bY++b').length:=by
   have:=(dX.1 a).1;have:=aH.1;omega
  rw[RS (by simpa using ao)] at b;simpa using b
theorem Tb{a b:Nat}(h:Nat.blt a b=false):b<=a:=by
 rcases kY a b with q|q
 ·have:=lr q;unfold Nat.blt at h;simp_all
 ·exact q
theorem aec(h:ca P B w0 μ H w){hi hy eD:TypeId}{hn:TypeDesc}{s c3 x dT v:Value}(af:bF μ s c3)(U:bF μ x dT)(jQ:P.underlying hy=some hn)(xo:∀k,hn≠.int k)(he:p6 P H hi s x=some (v,H')):
 ∃v' bu bI,(Builtin.append_ #[hi,hy] eD #[c3,dT]).run P w=.ok v' bu/\ca P B w0 bI H' bu/\Step μ bI H H'/\bF bI v v':=by
 unfold p6 at he;cases hu:P.underlying hi with
 |none=>rw[hu] at he;simp at he
 |some d=>
  rw[hu] at he;cases d with
  |slice elem=>
   cases s with
   |slice base db ic=>
    simp only at he;cases eU:ej P elem with
    |none=>rw[eU] at he;simp at he
    |some sz=>
    rw[eU] at he;cases h':vb P elem with
    |none=>rw[h'] at he;simp at he
    |some gS=>
    rw[h'] at he;cases bN:fw P elem with
    |none=>rw[bN] at he;simp at he
    |some z=>
    rw[bN] at he;cases aP:rF x with
    |none=>rw[aP] at he;simp at he
    |some n=>
    rw[aP] at he;simp only at he;cases xh:(Nat.ble (db+n) 1000000&&Nat.ble gS 1000000&&Nat.beq z.cells.toList.length sz) with
    |false=>rw[xh] at he;simp at he
    |true=>
    rw[xh] at he;simp only[lK,dZ] at he;simp only[fU] at xh;obtain⟨⟨bd,a6⟩,b9⟩:=xh;have bd:=h3 bd;have a6:=h3 a6;have b9:=eN b9;cases aC:jM H sz n x with
    |none=>rw[aC] at he;simp at he
    |some new=>
    rw[aC] at he;simp only at he;cases ji:(new.all eQ&&Nat.beq new.length (n*sz)) with
    |false=>rw[ji] at he;simp at he
    |true=>
    rw[ji] at he;simp only[lK,dZ] at he;simp only[fU] at ji;have fN:=eN ji.2;obtain⟨rK,b0,dn⟩:=J5 h U aP (cZ _) aC;have hlen:=W2 (P:=P) U aP;obtain⟨i,ao,rfl⟩:=MU h'
    have xI:i.zero=some z:=by simpa[fw,ao] using bN
    have sH:i.size=sz:=by simpa[ej,ao] using eU
    have oW:(Builtin.firstCells i.size n dT).run P w=.ok rK.toArray w:=by rw[sH];exact dn w.drawn
    have dW:(c9:Nat)=1208925819614629174706176:=rfl;by_cases D6:ic=c9
    ·subst D6;rw[hA,cb] at he;cases base with
     |none=>simp at he
     |some a=>
      obtain⟨id,off,L,gb,eg,rfl,bT,rfl,ar,_,tR⟩:=af.x4 (.inr (.inr (by decide)));simp only at he;cases hm:H.mem.get id with
      |none=>rw[hm] at he;simp at he
      |some b=>
       rw[hm] at he;cases b with
       |row cells el opn bM eB sh=>
        cases opn with
        |false=>simp at he
        |true=>
        simp only at he;cases oO:(Nat.beq el elem&&!Nat.blt id H.bZ&&Nat.ble eB (off+db*sz)) with
        |false=>rw[oO] at he;simp at he
        |true=>
        rw[oO] at he;simp only[lK,dZ] at he;simp only[fU,qL] at oO;obtain⟨⟨cI,ei⟩,gN⟩:=oO;have cI:=eN cI;subst cI;have ei:=Tb ei;have gN:=h3 gN;obtain⟨c,f,g1,g2,g3,g4,g5,g6,g7⟩:=h.row bT hm;have Kj:L.sz=sz:=by rw[<-g3];exact Rd eU
        cases jj:Nat.beq n 0 with
        |true=>
         rw[jj,cb] at he;simp only[cp,dC] at he;obtain⟨rfl,rfl⟩:=he;have jj:=eN jj;subst jj;have Pm:rK=[]:=by
          have:=b0.1;rw[fN] at this;exact s9.1 (by omega)
         subst Pm;refine⟨_,w,μ,?_,h,Step.refl _ _,af⟩;have hle:db+0<=eg:=by
          rcases tR with⟨bt,_⟩|⟨_,bw,_⟩|⟨_,bw,dh⟩<;>omega
         exact LQ hi hy eD el hn i hu jQ xo ao (some ⟨L.r,gb,none⟩) db eg 0 dT [] w hlen oW hle (fun a _=>rfl) (fun q=>by cases q)
        |false=>
        rw[jj,dZ] at he;have asC:0<n:=by
         rcases Nat.eq_zero_or_pos n with q|q
         ·subst q;simp at jj
         ·exact q
        cases Hr:Nat.beq off 0 with
        |false=>rw[Hr] at he;simp at he
        |true=>
        rw[Hr] at he;simp only[lK,dZ] at he;have Hr:=eN Hr;subst Hr;cases hold:takeN (db*sz) cells with
        |none=>rw[hold] at he;simp at he
        |some ew=>
        rw[hold] at he;simp only at he;obtain⟨uv,vV,ak6⟩:=E4 hold;cases iK:H.bM.get bM with
        |none=>rw[iK] at he;simp at he
        |some l=>
        rw[iK] at he;simp only at he;cases DT:yS H id l with
        |none=>rw[DT] at he;simp at he
        |some p=>
        obtain⟨cU,H1⟩:=p;rw[DT] at he;simp only at he;obtain⟨bp,bC,b5,da,gM,ob,zu,zv,P9,pre,as9,aj2⟩:=ac4 DT;have Pd:∀x,H1.mem.get x=H.mem.get x\/(H1.mem.get x=some .dead/\(ka (H.mem.get x)=true\/H.mem.get x=some .dead)):=fun x=>by
         rcases P9 x with q|q
         ·exact .inl q
         ·exact .inr ⟨q.1,(h.k3 bM l x iK q.2).2⟩
        obtain⟨GN,Kn⟩:=h.kill (H':=H1) bp b5 da Pd (fun f l av=>⟨l,by rw[bC];exact av,bA _,fun x a b=>absurd a b⟩) (fun f l av=>⟨l,by rw[<-bC];exact av,bA _⟩)
        --E5 ew members aoe stay abc no Qf aul RD is kept
        have ahZ:∀y∈cU,∀c e f z s,H1.mem.get y=some (.row c e true f z s)->c.length<=cells.length:=fun y ai c e f z s q=>by
         have aja:=GN.vq bM l (by rw[bC];exact iK);have hW:=aja.sublist gM;rw[aj2] at hW ai;rcases fg.1 ai with rfl|ai
         ·rw[zu,hm] at q;injection q with q;injection q with q;subst q;exact cZ _
         ·exact(Sn.1 hW).1 y ai _ _ _ _ _ _ _ _ _ _ (by rw[zu];exact hm) q
        --E5 second cut
        cases c7:Gg H1 cU (Nat.beq cells.length (db*sz)) with
        |none=>rw[c7] at he;simp at he
        |some p=>
        obtain⟨ee,cN⟩:=p;rw[c7] at he;simp only at he;unfold Gg at c7
        have tJ:ca P B w0 μ cN w/\Step μ μ H cN/\cN.ak=H.ak/\cN.ct=H.ct/\cN.bZ=H.bZ/\cN.bM.get bM=some l/\ee.Sublist l/\(∀x,x∈l->x∉ee->cN.mem.get x=some .dead)/\
         (∀y∈ee,∀c e f z s,cN.mem.get y=some (.row c e true f z s)->c.length<=db*sz)/\(∀x,cN.mem.get x=H.mem.get x\/cN.mem.get x=some .dead):=by
         cases au:Nat.beq cells.length (db*sz) with
         |true=>
          rw[au,cb] at c7;simp only[cp,dC] at c7;obtain⟨rfl,rfl⟩:=c7;have au:=eN au;exact⟨GN,Kn,bp,b5,da,by rw[bC];exact iK,gM,zv,fun y ai c e f z s q=>by have:=ahZ y ai c e f z s q;omega,fun x=>(Pd x).imp (fun q=>q) And.left⟩
         |false=>
          rw[au,dZ] at c7;cases aU:sK H1 H1.ak cU with
          |none=>rw[aU] at c7;simp at c7
          |some Ji=>
           rw[aU] at c7;simp only[cp,dC] at c7;obtain⟨rfl,rfl⟩:=c7;obtain⟨bo,a2,a3,a4,a5,dc⟩:=K8 aU;have lC:∀x,x∈cU->Ji.mem.get x=some .dead:=fun x U=>a5 x U (fun e=>by
            have:=(GN.k3 bM l x (by rw[bC];exact iK) (gM.mem U)).1;omega)
           have Pe:∀x,Ji.mem.get x=H1.mem.get x\/(Ji.mem.get x=some .dead/\(ka (H1.mem.get x)=true\/H1.mem.get x=some .dead)):=fun x=>by
            by_cases U:x∈cU
            ·exact .inr ⟨lC x U,(GN.k3 bM l x (by rw[bC];exact iK) (gM.mem U)).2⟩
            ·exact .inl (dc x (.inl U))
           obtain⟨tJ,GY⟩:=GN.kill (H':=Ji) bo a3 a4 Pe (fun f l av=>⟨l,by rw[a2];exact av,bA _,fun x a b=>absurd a b⟩) (fun f l av=>⟨l,by rw[<-a2];exact av,bA _⟩);refine⟨tJ,Kn.trans GY,by omega,by omega,by omega,by rw[a2,bC];exact iK,iR _,fun x U _=>?_,fun y ai=>by simp at ai,fun x=>?_⟩
           ·by_cases eo:x∈cU
            ·exact lC x eo
            ·have:=zv x U eo;rcases Pe x with q|q
             ·rw[q];exact this
             ·exact q.1
           ·rcases Pe x with q|q
            ·rw[q];exact(Pd x).imp (fun q=>q) And.left
            ·exact .inr q.1
        obtain⟨tJ,GY,m1,m2,m3,m4,m5,m6,m7,m8⟩:=tJ;cases lE:cN.rS bM (cN.ak::ee) with
        |none=>rw[lE] at he;simp at he
        |some o9=>
        rw[lE] at he;simp only at he;obtain⟨s1,s2,zU,ES,uF⟩:=aB.EX lE;cases Pk:o9.new (.row (ew++new) el true bM eB sh) with
        |none=>rw[Pk] at he;simp at he
        |some p=>
        obtain⟨akS,CJ⟩:=p;rw[Pk] at he;simp only[cp,dC] at he;obtain⟨rfl,rfl⟩:=he;obtain⟨rfl,t1,t2,t3,t4,t5⟩:=aB.qz Pk;have aN:CJ.ak=cN.ak+1:=by omega
        have cv:∀m,CJ.mem.get m=if m=cN.ak then some (.row (ew++new) el true bM eB sh) else cN.mem.get m:=fun m=>by rw[t5,s1,s2]
        have im:∀m,CJ.bM.get m=if m=bM then some (cN.ak::ee) else cN.bM.get m:=fun m=>by rw[t2,uF]
        have oR:bM<cN.ct:=by have:=h.q9 _ _ _ _ _ _ hm;omega
        have Hk:(ew++new).length=(db+n)*sz:=by rw[dv,vV,fN,nr]
        have xF:∀y∈ee,∀c e f z s,cN.mem.get y=some (.row c e true f z s)->c.length<=(ew++new).length:=fun y ai c e f z s q=>by
         have:=m7 y ai c e f z s q;rw[dv,vV];omega
        --RD is kept,aub
        have Pq:b4 μ ew (c.toList.take (db*sz)):=by
         have:=g6.take (db*sz);rw[<-uv,yu,mf ak6] at this;exact this
        rw[s1];rcases tR with⟨bt,_⟩|⟨_,bw,rfl,dh⟩|⟨_,rfl,rfl⟩
        ·omega
        ·--a slice with room of as8 own,or none
         by_cases nG:db+n<=eg
         ·--in place
          rw[Kj] at dh;have Bx:(db+n)*sz<=L.N:=by
           have:=nt sz nG;omega
          have di:=YK (P:=P) L.r (db*sz) el f rK 0 c w g1 (by rw[<-b0.1,fN,g2];rw[nr] at Bx;omega) (fun j ba=>by
           rw[<-b0.1,fN] at ba;exact UB g7 (by rw[nr] at Bx;omega) (by omega)) (aa4 b0 ji.1)
          simp only[ta] at di
          obtain⟨GO,GZ⟩:=tJ.amt (H':=CJ) (f:=bM) (id:=id) (l:=ee) (l0:=l) (cells:=ew++new) (elem:=el) (eB:=eB) (sh:=sh) (o:=.cells c el f) (o':=.cells (qI c (db*sz) rK) el f) (L:=L) m4 m5 m6 oR bT (by omega) (h.new id L bT (by omega) (by rw[hm];intro q;cases q)) aN (by omega) (by omega) cv im xF
           (fun y bQ ai ay=>by
            by_cases rj:cN.mem.get y=some .dead
            ·exact .inl rj
            ·right
             have HS:y∈l/\xM H y bM:=by
              by_cases kz:y=id
              ·subst kz;exact⟨gM.mem ob,⟨_,_,_,_,hm⟩⟩
              ·rcases h.sep id y L bQ (Ne.symm kz) bT ai ay.symm with d|d|⟨cW,l',⟨bt,w2,fA,LR,q⟩,dz,c6,_,akr⟩
               ·rw[hm] at d;cases d
               ·exact absurd ((m8 y).elim (fun q=>q.trans d) (fun q=>q)) rj
               ·rw[hm] at q;injection q with q;injection q with _ _ _ q;subst q
                rw[iK] at c6;injection c6 with c6;subst c6
                exact⟨akr,dz⟩
             have WB:y∈ee:=qN fun fy=>rj (m6 y HS.1 fy);obtain⟨b,o,dS,iz,iX⟩:=tJ.fP y bQ ai;have ec:cN.mem.get y=H.mem.get y:=(m8 y).resolve_right rj;obtain⟨TW,NI,apV,an5,IE⟩:=HS.2;have atB:=dS;rw[ec,IE] at dS;injection dS with dS;subst dS
             have asv:=m7 y WB _ _ _ _ _ (ec.trans IE);refine⟨⟨TW,NI,apV,an5,ec.trans IE⟩,WB,_,ec.trans IE,?_⟩;rw[ay,g1] at iz;injection iz with iz;subst iz
             obtain⟨fA,z2,z3,z4,z5,apF,apG⟩:=iX;refine⟨fA,by rw[Re];exact z2,z3,z4,fun q=>(by cases q),fun j v v' a b=>?_,apG⟩;rw[LW _ _ _ _ (by rw[<-b0.1,fN,g2];rw[nr] at Bx;omega)] at b;have ba:=(dX.1 a).1;rw[ap (by omega)] at b;exact apF j v v' a b)
           (by
            refine⟨rfl,by rw[Re];exact g2,g3,by rw[Hk];exact Bx,fun q=>(by cases q),fun j v v' a b=>?_,g7⟩;rw[LW _ _ _ _ (by rw[<-b0.1,fN,g2];rw[nr] at Bx;omega)] at b;rw[Sh] at a;rw[vV] at a;split at a
            ·rename_i ba;rw[ap (by omega)] at b;refine Pq.2 j v v' a ?_;rw[kI,aE ba];simpa using b
            ·rename_i ba;have VI:=(dX.1 a).1;rw[aE (by rw[<-b0.1];omega)] at b;exact b0.2 _ v v' a b)
          refine⟨.slice (some ⟨L.r,0,none⟩) (db+n) eg,_,_,?_,GO,GY.trans GZ,?_⟩
          ·exact LQ hi hy eD el hn i hu jQ xo ao (some ⟨L.r,0,none⟩) db eg n dT rK _ hlen oW nG (fun a q=>by
            injection q with q;subst q
            rw[Addr.q3,sH,ls];exact di) (fun q=>by cases q)
          ·exact .pL cN.ak 0 (db+n) eg L (b1.kT _ _ _) nG (by rw[Kj];exact dh)
         ·--it ary
          have iv:=Q1 (P:=P) (w:=w) hi hy eD el hn i z hu jQ xo ao xI (some ⟨L.r,0,none⟩) db eg n dT (c.toList.take (db*sz)) rK hlen
           (fun gm=>by
            rw[sH];refine run_firstCells_some (P:=P) {w with drawn:=gm} sz db ⟨L.r,0,none⟩ db eg _ (by rw[<-Pq.1,vV]) (fun j v ba=>?_);rw[Addr.q3,ls];have:=cell_of_row (w:={w with drawn:=gm}) g1 j;rw[this];rw[kI] at ba;split at ba
            ·simpa using ba
            ·cases ba)
           (fun gm=>by rw[sH];exact dn gm) (by omega) bd a6
          have lY:=grownCap_ge w (db+n) eg el
          obtain⟨GO,GZ⟩:=tJ.drew.Yl (H':=CJ) (f:=bM) (l:=ee) (l0:=l) (cells:=ew++new) (elem:=el) (eB:=eB) (sh:=sh)
           (o:=.cells ((c.toList.take (db*sz)).toArray++(rK.toArray++Builtin.zeroCells z.cells (grownCap w (db+n) eg el -(db+n)))) el) (L:=⟨w.heap.size,grownCap w (db+n) eg el*sz,sz⟩) m4 m5 m6 oR aN (by omega) (by omega) cv im xF rfl
           (N2 (Pq.mono (tJ.w8 _)) (b0.mono (tJ.w8 _)) (by rw[g3,Kj]) b9 Hk lY)
          refine⟨_,_,_,iv,GO,GY.trans GZ,?_⟩;exact .pL cN.ak 0 (db+n) _ ⟨w.heap.size,grownCap w (db+n) eg el*sz,sz⟩ (b1.kT _ _ _) lY (by simp)
        ·--a slice auy room
         have iv:=Q1 (P:=P) (w:=w) hi hy eD el hn i z hu jQ xo ao xI (some ⟨L.r,gb,none⟩) 0 0 n dT [] rK hlen
          (fun gm=>by simp[Builtin.firstCells,loadCells,loadCellsFrom])
          (fun gm=>by rw[sH];exact dn gm) (by omega) bd a6
         have lY:=grownCap_ge w (0+n) 0 el;have aik:ew=[]:=s9.1 (by omega);subst aik
         obtain⟨GO,GZ⟩:=tJ.drew.Yl (H':=CJ) (f:=bM) (l:=ee) (l0:=l) (cells:=[]++new) (elem:=el) (eB:=eB) (sh:=sh)
          (o:=.cells (([]:List Value).toArray++(rK.toArray++Builtin.zeroCells z.cells (grownCap w (0+n) 0 el -(0+n)))) el) (L:=⟨w.heap.size,grownCap w (0+n) 0 el*sz,sz⟩) m4 m5 m6 oR aN (by omega) (by omega) cv im xF rfl
          (N2 (b4.nil _) (b0.mono (tJ.w8 _)) (by rw[g3,Kj]) b9 Hk lY)
         refine⟨_,_,_,iv,GO,GY.trans GZ,?_⟩;exact .pL cN.ak 0 (0+n) _ ⟨w.heap.size,grownCap w (0+n) 0 el*sz,sz⟩ (b1.kT _ _ _) lY (by simp)
       |_=>simp at he
    ·rw[MM D6,dZ] at he
     --E5 exact atx
     have lb:∀a,base=some a->a.spot=none:=fun a q=>by
      subst q;cases q:a.spot with
      |none=>rfl
      |some k=>
       exfalso;cases aC:Nat.ble (db+n) ic with
       |true=>rw[aC] at he;simp[q] at he
       |false=>rw[aC] at he;simp[zF,q] at he
     have Oz:(base=none/\c3=.slice none db ic)\/(∃id off L,base=some ⟨id,off,none⟩/\μ id=some L/\c3=.slice (some ⟨L.r,off,none⟩) db ic):=by
      cases base with
      |none=>exact .inl ⟨rfl,af.uI⟩
      |some a=>
       obtain⟨id,off,L,gb,eg,rfl,bT,rfl,ar,_,tR⟩:=af.x4 (.inl (lb a rfl));rcases tR with⟨_,rfl,rfl⟩|⟨q,_⟩|⟨q,_⟩
       ·exact .inr ⟨id,gb,L,rfl,bT,rfl⟩
       ·exact absurd q D6
       ·exact absurd q D6
     cases nG:Nat.ble (db+n) ic with
     |true=>
      rw[nG,cb] at he;have nG:=h3 nG;rcases Oz with⟨rfl,rfl⟩|⟨id,off,L,rfl,bT,rfl⟩
      ·simp only at he;cases jj:Nat.beq n 0 with
       |false=>rw[jj] at he;simp at he
       |true=>
        rw[jj,cb] at he;simp only[cp,dC] at he;obtain⟨rfl,rfl⟩:=he;have jj:=eN jj;subst jj;refine⟨_,w,μ,?_,h,Step.refl _ _,af⟩;exact LQ hi hy eD elem hn i hu jQ xo ao none db ic 0 dT rK w hlen oW nG (fun a q=>by cases q) (fun _=>rfl)
      ·simp only at he;cases di:sk H id (off+db*sz) new with
       |none=>rw[di] at he;simp at he
       |some H1=>
        rw[di] at he;simp only[cp,dC] at he;obtain⟨rfl,rfl⟩:=he;obtain⟨bu,bo,a2,a3⟩:=NB h bT b0 di;refine⟨.slice (some ⟨L.r,off,none⟩) (db+n) ic,bu,μ,?_,a2,a3,?_⟩
        ·exact LQ hi hy eD elem hn i hu jQ xo ao (some ⟨L.r,off,none⟩) db ic n dT rK bu hlen oW nG (fun a q=>by
          injection q with q;subst q
          rw[Addr.q3,sH];exact bo) (fun q=>by cases q)
        ·have c4:ic<c9:=by
          obtain⟨_,_,_,_,_,_,_,_,_,_,tR⟩:=af.x4 (.inl rfl);rcases tR with⟨q,_⟩|⟨q,_⟩|⟨q,_⟩
          ·exact q
          ·exact absurd q D6
          ·exact absurd q D6
         exact .nP id off _ _ L bT c4
     |false=>
      rw[nG,dZ,show zF base=true from by rcases Oz with⟨rfl,_⟩|⟨_,_,_,rfl,_⟩<;>rfl,cb] at he;have nG:ic<db+n:=by
       rcases kY ic (db+n) with q|q
       ·exact q
       ·rw[lr q] at nG;cases nG
      cases hold:jM H sz db (.slice base db ic) with
      |none=>rw[hold] at he;simp at he
      |some ew=>
       rw[hold] at he;simp only at he;obtain⟨XN,uv,vV⟩:=J5 h af (m:=db) rfl (cZ _) hold;cases j9:Nat.beq ew.length (db*sz) with
       |false=>rw[j9] at he;simp at he
       |true=>
        rw[j9,cb] at he;have j9:=eN j9;unfold fresh at he;cases fy:H.od (ew++new) elem false with
        |none=>rw[fy] at he;simp at he
        |some p=>
         obtain⟨akS,H1⟩:=p;rw[fy] at he;simp only[cp,dC] at he;obtain⟨rfl,rfl⟩:=he;have lY:=grownCap_ge w (db+n) ic elem;have Hk:(ew++new).length=(db+n)*sz:=by rw[dv,j9,fN,nr]
         obtain⟨bo,a2,rfl⟩:=h.drew.Qh (o:=.cells (XN.toArray++(rK.toArray++Builtin.zeroCells z.cells (grownCap w (db+n) ic elem -(db+n)))) elem) (L:=⟨w.heap.size,grownCap w (db+n) ic elem*sz,sz⟩) fy rfl
          (fun f=>N2 (uv.mono (h.w8 _)) (b0.mono (h.w8 _)) (Rd eU) b9 Hk lY)
         have Eb:∃b',c3=.slice b' db ic:=by
          rcases Oz with⟨_,q⟩|⟨_,_,_,_,_,q⟩
          ·exact⟨_,q⟩
          ·exact⟨_,q⟩
         obtain⟨b',rfl⟩:=Eb
         have iv:=Q1 (P:=P) (w:=w) hi hy eD elem hn i z hu jQ xo ao xI b' db ic n dT XN rK hlen
          (fun gm=>by rw[sH];exact vV gm) (fun gm=>by rw[sH];exact dn gm) nG bd a6
         exact⟨_,_,_,iv,bo,a2,.pL H.ak 0 (db+n) _ _ (b1.kT _ _ _) lY (by simp)⟩
   |_=>simp at he
  |_=>simp at he
end
end
end Go.Cre
namespace Go.Cre
noncomputable section
open Go.RowKit
section
variable {P:Program}{B:Nat->Prop}{w0 w:World}{μ:b1}{H H':aB}
theorem aeh(h:ca P B w0 μ H w){rV hi eD:TypeId}{d k2 s c3 v:Value}(aZ:bF μ d k2)(af:bF μ s c3)(he:Gt P H rV d s=some (v,H')):
 ∃v' bu,(Builtin.copy_ #[rV,hi] eD #[k2,c3]).run P w=.ok v' bu/\ca P B w0 μ H' bu/\Step μ μ H H'/\bF μ v v':=by
 unfold Gt at he;cases hu:P.underlying rV with
 |none=>rw[hu] at he;simp at he
 |some t=>
  rw[hu] at he;cases t with
  |slice elem=>
   cases d with
   |slice base vj aq'=>
    cases av:rF s with
    |none=>rw[av] at he;simp at he
    |some db=>
     rw[av] at he;simp only at he;cases eU:ej P elem with
     |none=>rw[eU] at he;simp at he
     |some sz=>
      rw[eU] at he;simp only at he;generalize aP:(bif Nat.ble db vj then db else vj)=n at he;have KL:Nat.min db vj=n:=by
          rw[<-aP];cases au:Nat.ble db vj with
          |true=>have:=h3 au;simp;exact mf this
          |false=>
           have:¬db<=vj:=fun q=>by rw[lr q] at au;cases au
           simp;exact Nat.min_eq_right (by omega)
      have ah':n<=db:=by rw[<-KL];exact Nat.min_le_left _ _
      cases aC:jM H sz n s with
      |none=>rw[aC] at he;simp at he
      |some cells=>
       rw[aC] at he;simp only at he;obtain⟨cells',bt,bw⟩:=J5 h af av ah' aC;have hlen:=W2 (P:=P) af av;have vG:(Builtin.firstCells sz n c3).run P w=.ok cells'.toArray w:=bw w.drawn;cases base with
       |none=>
        simp only[cp,dC] at he;obtain⟨rfl,rfl⟩:=he;rw[aZ.uI];refine⟨.int .i64 n,w,?_,h,Step.refl _ _,.atom _ rfl⟩;simp[Builtin.copy_,eY hu,hlen,KL,kC eU,vG,goInt]
       |some a=>
        have lb:a.spot=none:=by
         cases q:a.spot with
         |none=>rfl
         |some _=>simp[q] at he
        obtain⟨id,off,L,gb,eg,rfl,bT,rfl,ar,_,_⟩:=aZ.x4 (.inl lb);simp only at he;cases bB:cells.all eQ with
        |false=>rw[bB] at he;simp at he
        |true=>
         rw[bB] at he;simp only[lK,dZ] at he;cases di:sk H id off cells with
         |none=>rw[di] at he;simp at he
         |some H1=>
          rw[di] at he;simp only[cp,dC] at he;obtain⟨rfl,rfl⟩:=he;obtain⟨bu,bo,a2,a3⟩:=NB h bT bt di;refine⟨.int .i64 n,bu,?_,a2,a3,.atom _ rfl⟩;have ajb:(storeCells ⟨L.r,gb,none⟩ cells').run P w=.ok () bu:=by
            by_cases bD:0<vj
            ·rw[ar bD];exact bo
            ·have jj:n=0:=by rw[<-KL];have:vj=0:=by omega
                             rw[this];exact Nat.min_zero _
             have:cells=[]:=by
              subst jj;cases s with
              |slice b l c=>cases b with
               |none=>simp[jM] at aC;exact aC
               |some b=>
                simp[jM] at aC;exact aC
              |string s=>simp[jM,takeN] at aC;exact aC
              |_=>simp[rF] at av
             subst this;have:=bt.lf;subst this;simp only[storeCells] at bo ⊢;exact bo
          simp[Builtin.copy_,eY hu,hlen,KL,kC eU,vG,goInt,ajb]
   |_=>simp at he
  |_=>simp at he
theorem amh:∀{kr:List Field} {eG:List (Nat×Nat)},places P kr=some eG->eG.length=kr.length/\∀w,(kr.mapM (fun f=>Prod.mk f.offset <$> sizeOf f.type):Sem (List (Nat×Nat))).run P w=.ok eG w:=by
 intro kr;induction kr with
 |nil=>intro eG h;simp[places] at h;subst h;exact⟨rfl,fun w=>by simp⟩
 |cons f kr aK=>
  intro eG h;simp only[places] at h;cases af:ej P f.type with
  |none=>rw[af] at h;simp at h
  |some n=>
   rw[af] at h;cases aw:places P kr with
   |none=>rw[aw] at h;simp at h
   |some r=>
    rw[aw] at h;simp only[cp] at h;subst h;obtain⟨a,b⟩:=aK aw;refine⟨by simp[a],fun w=>?_⟩;simp[Sj,kC af,b]
theorem ae1(vs:List Value):∀(c:Array Value) (off k:Nat),(vs.zipIdx k).foldl (fun cs (x:Value×Nat)=>cs.setIfInBounds (off+x.2) x.1) c=qI c (off+k) vs:=by
 induction vs with
 |nil=>intro c off k;rfl
 |cons v vs aK=>intro c off k;simp only[List.zipIdx_cons,List.foldl_cons,qI];rw[aK];congr 1
theorem anH{off:Nat}{cells vs Da:List Value}(h:gD off cells vs=some Da):qI cells.toArray off vs=Da.toArray:=by
 obtain⟨aN,bn,cP⟩:=Rg h;apply Fi
 intro i;rw[LW _ _ _ _ (by simpa using bn)];have:=cP i;simp only[aaE];rw[this]
theorem anI{off:Nat}{cells cells' vs kD r:List Value}(aH:b4 μ cells cells')(az:b4 μ vs kD)(h:gD off cells vs=some r):∃dw,gD off cells' kD=some dw/\b4 μ r dw:=by
 induction off generalizing cells cells' r with
 |zero=>
  induction vs generalizing cells cells' kD r with
  |nil=>
   have:=az.lf;subst this;simp[gD] at h;subst h;exact⟨cells',by simp[gD],aH⟩
  |cons v vs aK=>
   obtain⟨v',fo,rfl,aa,ae⟩:=az.jC;cases cells with
   |nil=>simp[gD] at h
   |cons c cs=>
    obtain⟨ch,cT,rfl,g1,g2⟩:=aH.jC;simp only[gD] at h ⊢;cases af:gD 0 cs vs with
    |none=>rw[af] at h;simp at h
    |some ll=>
     rw[af] at h;simp only[cp] at h;subst h;obtain⟨dw,aN,bn⟩:=aK ae g2 af;rw[aN];exact⟨v'::dw,rfl,b4.cons aa bn⟩
 |succ n aK=>
  cases cells with
  |nil=>simp[gD] at h
  |cons c cs=>
   obtain⟨ch,cT,rfl,g1,g2⟩:=aH.jC;simp only[gD] at h ⊢;cases af:gD n cs vs with
   |none=>rw[af] at h;simp at h
   |some ll=>
    rw[af] at h;simp only[cp] at h;subst h;obtain⟨dw,aN,bn⟩:=aK g2 af;rw[aN];exact⟨ch::dw,rfl,b4.cons g1 bn⟩
def wv(μ:b1)(l l':List (Nat×Value)):Prop:=l.length=l'.length/\∀(i:Nat) p hO,l[i]?=some p->l'[i]?=some hO->p.1=hO.1/\bF μ p.2 hO.2
theorem wv.jC{p:Nat×Value}{l m:List (Nat×Value)}(h:wv μ (p::l) m):∃v' l',m=(p.1,v')::l'/\bF μ p.2 v'/\wv μ l l':=by
 cases m with
 |nil=>have:=h.1;simp at this
 |cons q l'=>
  obtain⟨a,b⟩:=h.2 0 p q rfl rfl;refine⟨q.2,l',by rw[a],b,by have:=h.1;simpa using this,fun i x y U ai=>h.2 (i+1) x y (by simpa using U) (by simpa using ai)⟩
theorem J9{place:Nat->Option (Nat×Nat)}:∀{parts mC:List (Nat×Value)} {cells cells' r:List Value},wv μ parts mC->b4 μ cells cells'->nC place cells parts=some r->
 ∃dw,Instr.fill place cells'.toArray mC=some dw.toArray/\b4 μ r dw:=by
 intro parts;induction parts with
 |nil=>
  intro mC cells cells' r aw aH he;have:mC=[]:=s9.1 (by have:=aw.1;simpa using this.symm);subst this;simp[nC] at he;subst he;exact⟨cells',rfl,aH⟩
 |cons p parts aK=>
  intro mC cells cells' r aw aH he;obtain⟨v',l',rfl,aa,ae⟩:=aw.jC;obtain⟨i,v⟩:=p;simp only[nC] at he;cases dO:place i with
  |none=>rw[dO] at he;simp at he
  |some q=>
   obtain⟨off,size⟩:=q;rw[dO] at he;simp only at he;cases au:Nat.beq v.cells.toList.length size with
   |false=>rw[au] at he;simp at he
   |true=>
    rw[au,cb] at he;have au:=eN au;cases af:gD off cells v.cells.toList with
    |none=>rw[af] at he;simp at he
    |some Da=>
     rw[af] at he;simp only at he;have az:=aa.cells;obtain⟨abO,s1,s2⟩:=anI aH az af;obtain⟨dw,a,b⟩:=aK ae s2 he;refine⟨dw,?_,b⟩;obtain⟨aN,bn,cP⟩:=Rg s1;have xG:=az.1;have bN:v'.cells.size=size:=by simp at xG au;omega
     have lc:v'.cells.toList.length=v'.cells.size:=by simp
     have ahm:(v'.cells.zipIdx.foldl (fun cs (x:Value×Nat)=>cs.setIfInBounds (off+x.2) x.1) cells'.toArray)=abO.toArray:=by
      rw[<-Array.foldl_toList,Array.toList_zipIdx,ae1,ta];exact anH s1
     have N3:¬(v'.cells.size≠size):=by omega
     have N4:¬(off+v'.cells.size>cells'.toArray.size):=by
      simp only[Sp];rw[<-lc];omega
     simp only[Instr.fill,dO];rw[ap (by simp only[yj,Gj];exact not_or.2 ⟨N3,N4⟩),ahm];exact a
theorem aee{t:TypeId}{parts mC:List (Nat×Value)}{v:Value}(aw:wv μ parts mC)(he:Gr P t parts=some v)(w:World):
 ∃v',(Instr.build t mC.toArray).run P w=.ok v' w/\bF μ v v':=by
 unfold Gr at he;cases bN:fw P t with
 |none=>rw[bN] at he;simp at he
 |some z=>
  rw[bN] at he;cases hu:P.underlying t with
  |none=>rw[hu] at he;simp at he
  |some d=>
   rw[hu] at he;have vP:plain z=true->b4 μ z.cells.toList z.cells.toList:=fun q=>(qD q).cells;cases d with
   |struct fields=>
    simp only at he;cases dO:plain z with
    |false=>rw[dO] at he;simp at he
    |true=>
     rw[dO,cb] at he;cases Py:places P fields.toList with
     |none=>rw[Py] at he;simp at he
     |some eG=>
      rw[Py] at he;simp only at he;cases aC:nC (nth eG) z.cells.toList parts with
      |none=>rw[aC] at he;simp at he
      |some cells=>
       rw[aC] at he;simp only[cp] at he;subst he;obtain⟨dw,a,b⟩:=J9 aw (vP dO) aC;obtain⟨_,hm⟩:=amh Py;refine⟨.agg dw.toArray,?_,bF.JD b⟩;have aP:(fun i=>eG[i]?)=nth eG:=by funext i;rw[kR]
       have iv:(Array.mapM (fun f=>Prod.mk f.offset <$> sizeOf f.type) fields:Sem (Array (Nat×Nat))).run P w=.ok eG.toArray w:=by
        rw[aaq];simp[hm]
       have bY:Instr.fill (fun x=>eG[x]?) z.cells mC=some dw.toArray:=by rw[aP];simpa using a
       simp[Instr.build,yh bN,eY hu,iv,bY]
   |array len elem=>
    simp only at he;cases dO:plain z with
    |false=>rw[dO] at he;simp at he
    |true=>
     rw[dO,cb] at he;cases af:ej P elem with
     |none=>rw[af] at he;simp at he
     |some sz=>
      rw[af] at he;simp only at he;cases aC:nC (fun i=>some (i*sz,sz)) z.cells.toList parts with
      |none=>rw[aC] at he;simp at he
      |some cells=>
       rw[aC] at he;simp only[cp] at he;subst he;obtain⟨dw,a,b⟩:=J9 aw (vP dO) aC;refine⟨.agg dw.toArray,?_,bF.JD b⟩;have bY:Instr.fill (fun i=>some (i*sz,sz)) z.cells mC=some dw.toArray:=by simpa using a
       simp[Instr.build,yh bN,eY hu,kC af,bY]
   |_=>simp at he
theorem aed(h:ca P B w0 μ H w){t:TypeId}{len:Nat}{parts mC:List (Nat×Value)}{v:Value}(aw:wv μ parts mC)(he:Gs P H t len parts=some (v,H')):
 ∃v' bu bI,(Instr.buildSlice t len mC.toArray).run P w=.ok v' bu/\ca P B w0 bI H' bu/\Step μ bI H H'/\bF bI v v':=by
 unfold Gs at he;cases hu:P.underlying t with
 |none=>rw[hu] at he;simp at he
 |some d=>
  rw[hu] at he;cases d with
  |slice elem=>
   simp only at he;cases af:ej P elem with
   |none=>rw[af] at he;simp at he
   |some sz=>
    rw[af] at he;cases bN:fw P elem with
    |none=>rw[bN] at he;simp at he
    |some z=>
     rw[bN] at he;simp only at he;cases aH:(Nat.ble len 100000&&Nat.ble (len*sz) 100000&&plain z&&Nat.beq z.cells.toList.length sz) with
     |false=>rw[aH] at he;simp at he
     |true=>
      rw[aH,cb] at he;simp only[fU] at aH;obtain⟨⟨⟨nN,bd⟩,a6⟩,b9⟩:=aH;have nN:=h3 nN;have bd:=h3 bd;have b9:=eN b9;cases aC:nC (fun i=>some (i*sz,sz)) (gG z.cells.toList len) parts with
      |none=>rw[aC] at he;simp at he
      |some cells=>
       rw[aC] at he;simp only at he;cases ar:cells.all eQ with
       |false=>rw[ar] at he;simp at he
       |true=>
        rw[ar,cb] at he;cases aP:uu H elem cells with
        |none=>rw[aP] at he;simp at he
        |some p=>
         obtain⟨id,H1⟩:=p;rw[aP] at he;simp only[cp,dC] at he;obtain⟨rfl,rfl⟩:=he;have vP:b4 μ z.cells.toList z.cells.toList:=(qD a6).cells;have Bl:b4 μ (gG z.cells.toList len) (gG z.cells.toList len):=b4.IJ fun v az=>
          Mh (p:=fun v=>bF μ v v) az (fun u hu=>by
           obtain⟨i,ao⟩:=kj.1 hu;exact vP.2 i u u ao ao)
         obtain⟨dw,a,b⟩:=J9 aw Bl aC;obtain⟨bI,L,m1,m2,m3,m4,_⟩:=Qr h b aP;refine⟨.slice (some ⟨w.heap.size,0,none⟩) len len,_,bI,?_,m1,m2,?_⟩
         ·have lc:=Mi z.cells.toList len;have ajC:z.cells.size=sz:=by simpa using b9
          have OB:¬(16777216<len*sz):=by omega
          rw[b9] at lc;simp only[aar] at lc;by_cases bD:len*sz=0
          ·have j8:gG z.cells.toList len=[]:=s9.1 (by rw[RI,b9];exact bD);rw[j8] at a;have bY:Instr.fill (fun i=>some (i*sz,sz)) (Array.map (fun _=>(default:Value)) (Array.range 0)) mC=some dw.toArray:=by
            have iH:Array.map (fun _:Nat=>(default:Value)) (Array.range 0)=#[]:=by simp
            rw[iH];exact a
           simp[Instr.buildSlice,eY hu,kC af,bD,bY,newRow,newObj,Sem.run]
          ·have bY:Instr.fill (fun i=>some (i*sz,sz)) ((Array.range (len*sz)).map fun i=>z.cells[i % z.cells.size]!) mC=some dw.toArray:=by rw[lc];exact a
           simp[Instr.buildSlice,eY hu,kC af,OB,bD,yh bN,bY,newRow,newObj,Sem.run]
         ·rw[<-m4];refine .nP id 0 len len L m3 ?_;have:(100000:Nat)<c9:=by decide
          omega
  |_=>simp at he
end
end
end Go.Cre
namespace Go.Cre
noncomputable section
open Go.RowKit
section
variable {P:Program}{B:Nat->Prop}{w0 w:World}{μ:b1}{H H':aB}
theorem Up{α:Type}{s:Sem α}{a:α}(h:eP P s=some a)(w:World):s.run P w=.ok a w:=by
 induction s generalizing w with
 |pure b=>simp[eP] at h;subst h;rfl
 |program k aK=>exact aK P (by simpa[eP] using h) w
 |mark m k aK=>exact aK (by simpa[eP] using h) w
 |_=>simp[eP] at h
theorem ca.apo(h:ca P B w0 μ H w){id:Nat}{L:Loc}{b b':ff}{o':Obj}(bT:μ id=some L)(aq:H.bZ<=id)(hm:H.mem.get id=some b)(j6:∀c e o f z s,b≠.row c e o f z s)(aZ:b≠.dead)
 (hu:H.upd id b'=some H')(mW:∀c e o f z s,b'≠.row c e o f z s)(au:kg P μ L b' o'):
 ca P B w0 μ H' {w with heap:=w.heap.setIfInBounds L.r o'}/\Step μ μ H H':=by
 obtain⟨jT,mH,ke,x8,sZ⟩:=aB.x9 hu;have vI:H.mem.get id≠some .dead:=by rw[hm];intro q;injection q with q;exact aZ q
 refine h.write bT aq vI jT ke x8 (by rw[sZ];simp) (fun x U=>.inl (by rw[sZ,ap U])) ?_ (fun f l av=>.inl (by rw[mH];exact av)) (fun f l av=>.inl (by rw[<-mH];exact av))
  (fun c e f z s q=>absurd q (mW _ _ _ _ _ _)) (fun q=>by
   rw[hm] at q;cases b with
   |row c e o f z s=>exact absurd rfl (j6 _ _ _ _ _ _)
   |_=>simp[ka] at q) au
 intro x bQ U oN ay;rcases h.sep id x L bQ (Ne.symm U) bT oN ay.symm with d|d|⟨cW,l,⟨bt,aN,fA,LR,q⟩,_⟩
 ·exact absurd d vI
 ·rw[sZ,ap U];exact d
 ·rw[hm] at q;injection q with q;exact absurd q (j6 _ _ _ _ _ _)
end
end
end Go.Cre

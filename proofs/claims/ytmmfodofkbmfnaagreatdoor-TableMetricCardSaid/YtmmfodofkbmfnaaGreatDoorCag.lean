/- A part of the proof of TableMetric. -/
import Derived.Test.YtmmfodofkbmfnaaGreatDoorCaf
import Derived.Laws.MakeOwn
set_option linter.unusedVariables false
set_option linter.unusedSimpArgs false
namespace Go.Cre
noncomputable section
open Go.RowKit
section
variable {P:Program}{B:Nat->Prop}{w0 w:World}{μ:bm}{H H':ah}
def xF(μ:bm):Option Value->Option Value->Prop
 |none,none=>True
 |some v,some v'=>a3 μ v v'
 |_,_=>False
theorem run_sliceBound{k:IntKind}{n y:Nat}(h:n<=y)(code:BoundsCode)(w:World):(Instr.sliceBound (.int k (n:Int)) y code).run P w=.ok n w:=by
 have:(n:Int)<=(y:Int):=by omega
 simp[Instr.sliceBound,asIntOf,this]
theorem xQ{fR q1 aq iJ:Option Value}(g4:xF μ fR q1)(iX:xF μ aq iJ){len top sW h l:Nat}{wB:Bool}(cF:ik len top aq=some h)(aw:ik 0 h fR=some l)(aG:top<=sW)(w:World):
 (Instr.sliceBounds wB len sW q1 iJ none).run P w=.ok (l,h,sW) w/\l<=h/\(len<=sW->h<=sW):=by
 have U:(aq=none/\iJ=none/\h=len)\/(∃k,aq=some (.int k h)/\iJ=some (.int k h)/\h<=top):=by
  cases aq with
  |none=>cases iJ with
   |none=>simp[ik] at cF;exact .inl ⟨rfl,rfl,cF.symm⟩
   |some v=>exact iX.elim
  |some v=>cases iJ with
   |none=>exact iX.elim
   |some v'=>
    cases v with
    |int k i=>
     obtain⟨rfl,hle⟩:=wz (by simpa[ik] using cF);have:=a3.lZ iX;subst this;exact .inr ⟨k,rfl,rfl,hle⟩
    |_=>simp[ik] at cF
 have ab:(fR=none/\q1=none/\l=0)\/(∃k,fR=some (.int k l)/\q1=some (.int k l)/\l<=h):=by
  cases fR with
  |none=>cases q1 with
   |none=>simp[ik] at aw;exact .inl ⟨rfl,rfl,aw.symm⟩
   |some v=>exact g4.elim
  |some v=>cases q1 with
   |none=>exact g4.elim
   |some v'=>
    cases v with
    |int k i=>
     obtain⟨rfl,hle⟩:=wz (by simpa[ik] using aw);have:=a3.lZ g4;subst this;exact .inr ⟨k,rfl,rfl,hle⟩
    |_=>simp[ik] at aw
 rcases U with⟨_,rfl,rfl⟩|⟨k,_,rfl,aA⟩<;>rcases ab with⟨_,rfl,rfl⟩|⟨ir,_,rfl,aW⟩
 ·exact⟨by simp[Instr.sliceBounds],by omega,by omega⟩
 ·exact⟨by simp[Instr.sliceBounds,run_sliceBound aW],by omega,by omega⟩
 ·exact⟨by simp[Instr.sliceBounds,run_sliceBound (show h<=sW by omega)],by omega,by omega⟩
 ·exact⟨by simp[Instr.sliceBounds,run_sliceBound (show h<=sW by omega),run_sliceBound aW],by omega,by omega⟩
theorem Dx{a b:Nat}(h:a≠b):Nat.beq a b=false:=by
 cases q:Nat.beq a b
 ·rfl
 ·exact absurd (dB q) h
theorem RN(h:bz P B w0 μ H w){t:TypeId}{x dh v:Value}{fR q1 aq iJ:Option Value}(j:a3 μ x dh)(g4:xF μ fR q1)(iX:xF μ aq iJ)(he:iI P H t x fR aq=some v):
 ∃v',(Instr.sliceAt t dh q1 iJ none).run P w=.ok v' w/\a3 μ v v':=by
 unfold iI at he;cases hu:P.underlying t with
 |none=>rw[hu] at he;simp at he
 |some d=>
  rw[hu] at he;cases d with
  |array n elem=>
   cases x with
   |pointer a=>
    cases a with
    |none=>simp at he
    |some a=>
     obtain⟨id,off,L,rfl,bD,rfl⟩:=j.kS;simp only at he;cases ag:dD P elem with
     |none=>rw[ag] at he;simp at he
     |some sz=>
      rw[ag] at he;simp only at he;cases lN:Nat.blt n cf with
      |false=>rw[lN] at he;simp at he
      |true=>
      rw[lN] at he;simp only[kB,cZ] at he;have abL:n<cf:=fV lN;cases cF:ik n n aq with
      |none=>rw[cF] at he;simp at he
      |some vY=>
       rw[cF] at he;simp only at he;cases aw:ik 0 vY fR with
       |none=>rw[aw] at he;simp at he
       |some l=>
        rw[aw] at he;simp only[bL] at he;subst he;obtain⟨bV,b7,c5⟩:=xQ (P:=P) (wB:=false) g4 iX cF aw (c9 _) w;show ∃v',_/\a3 μ (.slice (some (bif Nat.beq n l then _ else _)) (vY -l) (n -l)) v';by_cases dQ:n=l
        ·subst dQ;refine⟨.slice (some ⟨L.r,off,none⟩) (vY -n) (n -n),?_,?_⟩
         ·simp[Instr.sliceAt,dH hu,Instr.sureAddr,bV,h3 ag]
         ·rw[ga n,bH];exact .kb id off (vY -n) (n -n) L bD (by omega)
        ·refine⟨.slice (some ⟨L.r,off+l*sz,none⟩) (vY -l) (n -l),?_,?_⟩
         ·simp[Instr.sliceAt,dH hu,Instr.sureAddr,bV,h3 ag,dQ,Addr.ml]
         ·rw[Dx dQ,cZ];exact .kb id (off+l*sz) (vY -l) (n -l) L bD (by omega)
   |_=>simp at he
  |slice elem=>
   cases x with
   |slice a len cap=>
    cases a with
    |none=>simp at he
    |some a=>
     have mH:a.spot=none:=by
      cases q:a.spot with
      |none=>rfl
      |some _=>simp[q] at he
     obtain⟨id,off,L,eB,c',rfl,bD,rfl,ae,_,oo⟩:=j.pY (.inl mH);simp only at he;cases ag:dD P elem with
     |none=>rw[ag] at he;simp at he
     |some sz=>
      rw[ag] at he;simp only at he;by_cases dd:cap=cf
      ·subst dd;rw[ga,bH] at he;cases hm:H.mem.get id with
       |none=>rw[hm] at he;simp at he
       |some b=>
        rw[hm] at he;cases b with
        |row cells el opn ba du sh=>
         simp only at he;cases vW:Nat.beq el elem with
         |false=>rw[vW] at he;simp at he
         |true=>
          rw[vW] at he;simp only[kB,cZ] at he;have:=dB vW;subst this;obtain⟨c,f,cJ,cW,eE,hD,oQ,Cy,zQ⟩:=h.row bD hm;have de:L.sz=sz:=by rw[<-eE];exact GU ag
          cases cF:ik len len aq with
          |none=>rw[cF] at he;simp at he
          |some g=>
           rw[cF] at he;simp only at he;cases aw:ik 0 g fR with
           |none=>rw[aw] at he;simp at he
           |some l=>
            rw[aw] at he;simp only[bL] at he;subst he;show ∃v',_/\a3 μ (.slice _ (g -l) cf) v';rcases oo with⟨bE,_,_⟩|⟨_,b8,rfl,dj⟩|⟨_,rfl,rfl⟩
            ·omega
            ·obtain⟨bV,b7,c5⟩:=xQ (P:=P) (wB:=true) g4 iX cF aw b8 w;have ar:g<=len:=by
              have:=(xQ (P:=P) (wB:=true) g4 iX cF aw (c9 _) w).2.2;exact this (c9 _)
             by_cases Bv:c'=l
             ·subst Bv;refine⟨.slice (some ⟨L.r,eB,none⟩) (g -c') (c' -c'),?_,?_⟩
              ·simp[Instr.sliceAt,Instr.slice,dH hu,bV,h3 ag]
              ·have aA:g -c'=0:=by omega
               rw[aA,AE];exact .pX id _ eB L bD
             ·refine⟨.slice (some ⟨L.r,eB+l*sz,none⟩) (g -l) (c' -l),?_,?_⟩
              ·simp[Instr.sliceAt,Instr.slice,dH hu,bV,h3 ag,Bv,Addr.ml]
              ·refine .lo id _ _ _ L bD (by omega) ?_;rw[de] at dj ⊢;have:c'*sz=l*sz+(c' -l)*sz:=by rw[<-hH];congr 1;omega
               omega
            ·obtain⟨bV,b7,c5⟩:=xQ (P:=P) (wB:=true) (sW:=0) g4 iX cF aw (c9 _) w;have:=c5 (c9 _);have aA:g=0:=by omega
             have aW:l=0:=by omega
             subst aA;subst aW;refine⟨.slice (some ⟨L.r,eB,none⟩) 0 0,?_,?_⟩
             ·simp[Instr.sliceAt,Instr.slice,dH hu,bV,h3 ag]
             ·exact .pX id _ eB L bD
        |_=>simp at he
      ·rw[Dx dd,cZ] at he;rcases oo with⟨bE,rfl,rfl⟩|⟨q,_⟩|⟨q,_⟩
       ·cases cF:ik len c' aq with
        |none=>rw[cF] at he;simp at he
        |some g=>
         rw[cF] at he;simp only at he;cases aw:ik 0 g fR with
         |none=>rw[aw] at he;simp at he
         |some l=>
          rw[aw] at he;simp only[bL] at he;subst he;show ∃v',_/\a3 μ (.slice (some (bif Nat.beq c' l then _ else _)) (g -l) (c' -l)) v';obtain⟨bV,b7,c5⟩:=xQ (P:=P) (wB:=true) g4 iX cF aw (c9 _) w;by_cases dQ:c'=l
          ·subst dQ;refine⟨.slice (some ⟨L.r,eB,none⟩) (g -c') (c' -c'),?_,?_⟩
           ·simp[Instr.sliceAt,Instr.slice,dH hu,bV,h3 ag]
           ·rw[ga,bH];exact .kb id eB _ _ L bD (by omega)
          ·refine⟨.slice (some ⟨L.r,eB+l*sz,none⟩) (g -l) (c' -l),?_,?_⟩
           ·simp[Instr.sliceAt,Instr.slice,dH hu,bV,h3 ag,dQ,Addr.ml]
           ·rw[Dx dQ,cZ];exact .kb id _ _ _ L bD (by omega)
       ·exact absurd q dd
       ·exact absurd q dd
   |_=>simp at he
  |_=>simp at he
theorem Hu(z:List Value):fb z 0=[]:=by
 rcases z with _|⟨a,_|⟨b,z⟩⟩<;>rfl
theorem C1(z:List Value)(n:Nat):fb z (n+1)=z++fb z n:=by
 rcases z with _|⟨a,_|⟨b,z⟩⟩<;>rfl
theorem Ht(z:List Value)(n:Nat):(fb z n).length=n*z.length:=by
 induction n with
 |zero=>simp[Hu]
 |succ n aN=>simp[C1,aN,xE];omega
theorem aat(z:List Value)(n i:Nat)(h:i<n*z.length):(fb z n)[i]?=z[i % z.length]?:=by
 induction n generalizing i with
 |zero=>simp at h
 |succ n aN=>
  simp only[C1];rw[HR];split
  ·rename_i aq;rw[qc aq]
  ·rename_i aq;rw[aN (i -z.length) (by rw[xE] at h;omega)];congr 1
   exact(Nat.mod_eq_sub_mod (by omega)).symm
theorem Ad{z:List Value}{n:Nat}{v:Value}{p:Value->Prop}(h:v∈fb z n)(ao:∀u∈z,p u):p v:=by
 induction n with
 |zero=>simp[Hu] at h
 |succ m aN=>
  simp only[C1,m3] at h;rcases h with h|h
  ·exact ao v h
  ·exact aN h
theorem DE{t:TypeId}{n:Nat}(h:o8 P t=some n):∃i,P.info? t=some i/\i.bytes=n:=by
 unfold o8 at h;cases aq:P.info? t with
 |none=>rw[aq] at h;cases h
 |some i=>rw[aq] at h;injection h with h;exact⟨i,rfl,h⟩
theorem Ae(z:List Value)(n:Nat):(Array.range (n*z.length)).map (fun i=>(z.toArray)[i % z.toArray.size]!)=(fb z n).toArray:=by
 apply xj
 intro i;by_cases aq:i<n*z.length
 ·have a0:0<z.length:=by
   rcases ke z.length with q|q
   ·rw[q] at aq;simp at aq
   ·exact q
  have hm:i % z.length<z.length:=qd _ a0;have e:(fb z n).toArray[i]?=z[i % z.length]?:=by rw[<-aat z n i aq];simp
  rw[e];simp[aq,hm]
 ·rw[nS (by simp;omega),nS (by simp[Ht];omega)]
theorem ll{v:Value}(h:plain v=true):a3 μ v v:=a3.WH h
theorem Cu{v v':Value}(h:plain v=true)(ap:a3 μ v v'):v'=v:=a3.Cu h ap
theorem bp.w3{l:List Value}(h:∀v∈l,a3 μ v v):bp μ l l:=⟨rfl,fun i v v' a b=>by
 rw[a] at b;injection b with b;subst b;exact h v (nZ a)⟩
theorem RH(h:bz P B w0 μ H w){t:TypeId}{l l' c bo v:Value}(aw:a3 μ l l')(aF:a3 μ c bo)(he:yc P H t l c=some (v,H')):
 ∃v' aZ a4,(Instr.makeSlice t l' bo).run P w=.ok v' aZ/\bz P B w0 a4 H' aZ/\Step μ a4 H H'/\a3 a4 v v':=by
 unfold yc at he;cases l with
 |int a8 l=>
  cases c with
  |int a5 c=>
   obtain rfl:=aw.lZ;obtain rfl:=aF.lZ;cases hu:P.underlying t with
   |none=>rw[hu] at he;simp at he
   |some d=>
    rw[hu] at he;cases d with
    |slice elem=>
     simp only at he;cases a0:fw P elem with
     |none=>rw[a0] at he;simp at he
     |some z=>
      rw[a0] at he;cases fQ:o8 P elem with
      |none=>rw[fQ] at he;simp at he
      |some fG=>
       rw[fQ] at he;cases ag:dD P elem with
       |none=>rw[ag] at he;simp at he
       |some sz=>
        rw[ag] at he;simp only at he;cases oi:lY c 1000000 with
        |none=>rw[oi] at he;simp at he
        |some iG=>
         rw[oi] at he;cases cY:lY l 1000000 with
         |none=>rw[cY] at he;simp at he
         |some gJ=>
          rw[cY] at he;simp only at he;cases qD:(Nat.ble gJ iG&&Nat.ble fG 1000000&&Nat.beq z.cells.toList.length sz&&z.cells.toList.all dY&&plain z) with
          |false=>rw[qD] at he;simp at he
          |true=>
           rw[qD,bH] at he;simp only[eT] at qD;obtain⟨⟨⟨⟨aQ,aP⟩,bC⟩,dp⟩,gi⟩:=qD;have aQ:=fV aQ;have aP:=fV aP;have bC:=dB bC;obtain⟨rfl,g2⟩:=wz oi;obtain⟨rfl,ia⟩:=wz cY;cases aE:oG H elem (fb z.cells.toList iG) with
           |none=>rw[aE] at he;simp at he
           |some p=>
            obtain⟨id,H1⟩:=p;rw[aE] at he;simp only[bL,cU] at he;obtain⟨rfl,rfl⟩:=he;have nz:bp μ z.cells.toList z.cells.toList:=(ll gi).cells;have qC:bp μ (fb z.cells.toList iG) (fb z.cells.toList iG):=bp.w3 fun v aD=>by
                exact Ad (p:=fun v=>a3 μ v v) aD (fun u hu=>by
                 obtain⟨i,aq⟩:=vc.1 hu;exact nz.2 i u u aq aq)
            obtain⟨a4,L,a,b,bE,d1,_⟩:=Gi h qC aE;refine⟨.slice (some ⟨w.heap.size,0,none⟩) gJ iG,_,a4,?_,a,b,?_⟩
            ·obtain⟨i,aq,rfl⟩:=DE fQ
             have mK:i.zero=some z:=by simpa[fw,aq] using a0
             have nv:i.size=sz:=by simpa[dD,aq] using ag
             have hmul:i.bytes*iG<=1000000*1000000:=rH aP g2;have jq:=Ae z.cells.toList iG;have e4:=run_make (P:=P) w t elem i z hu aq mK a8 a5 (gJ:Int) (iG:Int) (by omega) (by omega) (by
                 have:(i.bytes:Int)*(iG:Int)=((i.bytes*iG:Nat):Int):=by simp
                 rw[this];omega) (by omega)
             rw[e4];simp only[jW];congr 3
             rw[<-jq];simp[madeCells,nv,<-bC]
            ·rw[<-d1];exact .kb id 0 gJ iG L bE (by have:(1000000:Nat)<cf:=by decide
                                                    omega)
    |_=>simp at he
  |_=>simp at he
 |_=>simp at he
end
end
end Go.Cre
namespace Go.Cre
noncomputable section
open Go.RowKit
section
variable {P:Program}{B:Nat->Prop}{w0 w:World}{μ:bm}{H H':ah}
theorem Lw{x dh:Value}{m:Nat}(j:a3 μ x dh)(hm:mL x=some m)(w:World):(Builtin.lenOf dh).run P w=.ok m w:=by
 cases x with
 |slice a len cap=>
  simp[mL] at hm;subst hm;cases a with
  |none=>rw[j.nM];simp[Builtin.lenOf]
  |some a=>obtain⟨bA,c',rfl⟩:=j.sR;simp[Builtin.lenOf]
 |string s=>rw[j.zT];simp[mL] at hm;subst hm;rfl
 |_=>simp[mL] at hm
theorem PH(s:ByteArray)(n:Nat):((s.extract 0 n).data.map fun b=>Value.int .u8 b.toNat)=((s.data.toList.take n).map fun b=>Value.int .u8 b.toNat).toArray:=by
 apply mZ
 simp[ByteArray.data_extract]
theorem A6(h:bz P B w0 μ H w){x dh:Value}{sz n m:Nat}{l:List Value}(j:a3 μ x dh)(hm:mL x=some m)(aE:n<=m)(he:hd H sz n x=some l):
 ∃l',bp μ l l'/\∀eY,(Builtin.firstCells sz n dh).run P {w with drawn:=eY}=.ok l'.toArray {w with drawn:=eY}:=by
 cases x with
 |slice a len cap=>
  simp[mL] at hm;subst hm;cases a with
  |none=>
   rw[j.nM];cases n with
   |zero=>simp[hd] at he;subst he;exact⟨[],bp.nil _,fun eY=>by simp[Builtin.firstCells]⟩
   |succ n=>simp[hd] at he
  |some a=>
   cases n with
   |zero=>
    obtain⟨bA,c',rfl⟩:=j.sR;simp[hd] at he;subst he;exact⟨[],bp.nil _,fun eY=>by simp[Builtin.firstCells,loadCells,loadCellsFrom]⟩
   |succ n=>
    obtain⟨id,off,L,eB,c',rfl,bD,rfl,ae,_⟩:=j.pY (.inr (.inl (by omega)));simp only[hd] at he;rw[ae (by omega)];cases sd:H.mem.get id with
    |none=>rw[sd] at he;simp at he
    |some b=>
     rw[sd] at he;cases b with
     |row cells elem opn ba du sh=>
      simp only at he;obtain⟨l',b4,b0,cI⟩:=h.cells bD sd he;refine⟨l',b4,fun eY=>?_⟩;exact run_firstCells_some (P:=P) {w with drawn:=eY} sz (n+1) ⟨L.r,off,none⟩ len c' l' (by rw[b0]) (fun aa v aX=>by rw[Addr.ml];exact cI aa v aX)
     |_=>simp at he
 |string s=>
  rw[j.zT];simp only[hd] at he;cases aG:takeN n s.data.toList with
  |none=>rw[aG] at he;simp at he
  |some il=>
   rw[aG] at he;simp only[bL] at he;subst he;obtain⟨aA,aW,cr⟩:=w6 aG;refine⟨il.map fun b=>.int .u8 b.toNat,bp.w3 fun v aD=>?_,fun eY=>?_⟩
   ·obtain⟨b,_,rfl⟩:=s'.1 aD;exact .atom _ rfl
   ·simp only[Builtin.firstCells,PH,aA];rfl
 |_=>simp[mL] at hm
theorem GO(t fK dq e:TypeId)(fz:TypeDesc)(i:TypeInfo)(z:Value)(aG:P.underlying t=some (.slice e))(h0:P.underlying fK=some fz)(qF:∀k,fz≠.int k)(aq:P.info? e=some i)(a0:i.zero=some z)
 (base:Option Addr)(ct gu n:Nat)(x:Value)(Mk news:List Value)(hlen:∀w,(Builtin.lenOf x).run P w=.ok n w)
 (hold:∀eY,(Builtin.firstCells i.size ct (.slice base ct gu)).run P {w with drawn:=eY}=.ok Mk.toArray {w with drawn:=eY})
 (j9:∀eY,(Builtin.firstCells i.size n x).run P {w with drawn:=eY}=.ok news.toArray {w with drawn:=eY})
 (ar:gu<ct+n) (SH:ct+n<=1000000) (fQ:i.bytes<=1000000):
 (Builtin.append_ #[t,fK] dq #[.slice base ct gu,x]).run P w=
  .ok (.slice (some ⟨w.heap.size,0,none⟩) (ct+n) (grownCap w (ct+n) gu e))
   (w.drew.alloc (.cells (Mk.toArray++(news.toArray++Builtin.zeroCells z.cells (grownCap w (ct+n) gu e -(ct+n)))) e)):=by
 have aE:¬(ct+n<=gu):=by omega
 have SI:¬(9223372036854775807<((ct:Int)+(n:Int))):=by omega
 have hmul:(ct+n)*i.bytes<=1000000*1000000:=rH SH fQ
 have SG:¬(281474976710656<Builtin.nextslicecap (ct+n) gu*i.bytes):=by
  have:=growslice_fits (bytes:=i.bytes) ar (by omega);omega
 have ae:=hold (w.drawn+1);have hw:=j9 (w.drawn+1);have Bb:({w with drawn:=w.drawn+1}:World)=w.drew:=rfl;rw[Bb] at ae hw;simp[Builtin.append_,run_underlying aG,run_underlying h0,sizeOf,typeInfo,zeroValue,aq,a0,hlen,aE,SI,SG,Question.forced,hw,ae,newRow,grownCap]
theorem CE(t fK dq e:TypeId)(fz:TypeDesc)(i:TypeInfo)(aG:P.underlying t=some (.slice e))(h0:P.underlying fK=some fz)(qF:∀k,fz≠.int k)(aq:P.info? e=some i)
 (base:Option Addr)(ct gu n:Nat)(x:Value)(news:List Value)(aZ:World)(hlen:∀w,(Builtin.lenOf x).run P w=.ok n w)
 (j9:(Builtin.firstCells i.size n x).run P w=.ok news.toArray w)(ar:ct+n<=gu)
 (dA:∀a,base=some a->(storeCells (a.add (ct*i.size)) news).run P w=.ok () aZ)(gH:base=none->aZ=w):
 (Builtin.append_ #[t,fK] dq #[.slice base ct gu,x]).run P w=.ok (.slice base (ct+n) gu) aZ:=by
 cases base with
 |none=>
  rw[gH rfl];simp[Builtin.append_,run_underlying aG,run_underlying h0,sizeOf,typeInfo,aq,hlen,ar,j9]
 |some a=>
  have:=dA a rfl;simp[Builtin.append_,run_underlying aG,run_underlying h0,sizeOf,typeInfo,aq,hlen,ar,j9,this]
end
end
end Go.Cre

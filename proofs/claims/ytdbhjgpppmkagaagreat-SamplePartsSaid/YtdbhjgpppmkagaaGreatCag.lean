/- A part of the proof of SampleParts. -/
import Derived.Test.YtdbhjgpppmkagaaGreatCaf
import Derived.Laws.MakeOwn
set_option linter.unusedVariables false
set_option linter.unusedSimpArgs false
namespace Go.Cre
noncomputable section
open Go.RowKit
section
variable {P:Program}{B:Nat->Prop}{w0 w:World}{μ:bH}{H H':ao}
def C2(μ:bH):Option Value->Option Value->Prop
 |none,none=>True
 |some v,some v'=>bj μ v v'
 |_,_=>False
theorem run_sliceBound{k:IntKind}{n y:Nat}(h:n<=y)(code:BoundsCode)(w:World):(Instr.sliceBound (.int k (n:Int)) y code).run P w=.ok n w:=by
 have:(n:Int)<=(y:Int):=by omega
 simp[Instr.sliceBound,asIntOf,this]
theorem Dk{cL oG ak hQ:Option Value}(lE:C2 μ cL oG)(mn:C2 μ ak hQ){len top x' h l:Nat}{BP:Bool}(ez:kt len top ak=some h)(ay:kt 0 h cL=some l)(aN:top<=x')(w:World):
 (Instr.sliceBounds BP len x' oG hQ none).run P w=.ok (l,h,x') w/\l<=h/\(len<=x'->h<=x'):=by
 have aa:(ak=none/\hQ=none/\h=len)\/(∃k,ak=some (.int k h)/\hQ=some (.int k h)/\h<=top):=by
  cases ak with
  |none=>cases hQ with
   |none=>simp[kt] at ez;exact .inl ⟨rfl,rfl,ez.symm⟩
   |some v=>exact mn.elim
  |some v=>cases hQ with
   |none=>exact mn.elim
   |some v'=>
    cases v with
    |int k i=>
     obtain⟨rfl,hle⟩:=BM (by simpa[kt] using ez);have:=bj.pu mn;subst this;exact .inr ⟨k,rfl,rfl,hle⟩
    |_=>simp[kt] at ez
 have ab:(cL=none/\oG=none/\l=0)\/(∃k,cL=some (.int k l)/\oG=some (.int k l)/\l<=h):=by
  cases cL with
  |none=>cases oG with
   |none=>simp[kt] at ay;exact .inl ⟨rfl,rfl,ay.symm⟩
   |some v=>exact lE.elim
  |some v=>cases oG with
   |none=>exact lE.elim
   |some v'=>
    cases v with
    |int k i=>
     obtain⟨rfl,hle⟩:=BM (by simpa[kt] using ay);have:=bj.pu lE;subst this;exact .inr ⟨k,rfl,rfl,hle⟩
    |_=>simp[kt] at ay
 rcases aa with⟨_,rfl,rfl⟩|⟨k,_,rfl,aD⟩<;>rcases ab with⟨_,rfl,rfl⟩|⟨fw,_,rfl,a5⟩
 ·exact⟨by simp[Instr.sliceBounds],by omega,by omega⟩
 ·exact⟨by simp[Instr.sliceBounds,run_sliceBound a5],by omega,by omega⟩
 ·exact⟨by simp[Instr.sliceBounds,run_sliceBound (show h<=x' by omega)],by omega,by omega⟩
 ·exact⟨by simp[Instr.sliceBounds,run_sliceBound (show h<=x' by omega),run_sliceBound a5],by omega,by omega⟩
theorem Kx{a b:Nat}(h:a≠b):Nat.beq a b=false:=by
 cases q:Nat.beq a b
 ·rfl
 ·exact absurd (eK q) h
theorem aaX(h:bR P B w0 μ H w){t:TypeId}{x dD v:Value}{cL oG ak hQ:Option Value}(I:bj μ x dD)(lE:C2 μ cL oG)(mn:C2 μ ak hQ)(he:mP P H t x cL ak=some v):
 ∃v',(Instr.sliceAt t dD oG hQ none).run P w=.ok v' w/\bj μ v v':=by
 unfold mP at he;cases hu:P.underlying t with
 |none=>rw[hu] at he;simp at he
 |some d=>
  rw[hu] at he;cases d with
  |array n elem=>
   cases x with
   |pointer a=>
    cases a with
    |none=>simp at he
    |some a=>
     obtain⟨id,off,L,rfl,bB,rfl⟩:=I.n7;simp only at he;cases al:eB P elem with
     |none=>rw[al] at he;simp at he
     |some aj=>
      rw[al] at he;simp only at he;cases pf:Nat.blt n cR with
      |false=>rw[pf] at he;simp at he
      |true=>
      rw[pf] at he;simp only[lK,dN] at he;have am':n<cR:=hC pf;cases ez:kt n n ak with
      |none=>rw[ez] at he;simp at he
      |some Bg=>
       rw[ez] at he;simp only at he;cases ay:kt 0 Bg cL with
       |none=>rw[ay] at he;simp at he
       |some l=>
        rw[ay] at he;simp only[b6] at he;subst he;obtain⟨bE,bS,cJ⟩:=Dk (P:=P) (BP:=false) lE mn ez ay (dH _) w;show ∃v',_/\bj μ (.slice (some (bif Nat.beq n l then _ else _)) (Bg -l) (n -l)) v';by_cases df:n=l
        ·subst df;refine⟨.slice (some ⟨L.r,off,none⟩) (Bg -n) (n -n),?_,?_⟩
         ·simp[Instr.sliceAt,eP hu,Instr.sureAddr,bE,km al]
         ·rw[hX n,cc];exact .m5 id off (Bg -n) (n -n) L bB (by omega)
        ·refine⟨.slice (some ⟨L.r,off+l*aj,none⟩) (Bg -l) (n -l),?_,?_⟩
         ·simp[Instr.sliceAt,eP hu,Instr.sureAddr,bE,km al,df,Addr.pQ]
         ·rw[Kx df,dN];exact .m5 id (off+l*aj) (Bg -l) (n -l) L bB (by omega)
   |_=>simp at he
  |slice elem=>
   cases x with
   |slice a len cap=>
    cases a with
    |none=>simp at he
    |some a=>
     have mr:a.spot=none:=by
      cases q:a.spot with
      |none=>rfl
      |some _=>simp[q] at he
     obtain⟨id,off,L,ga,dY,rfl,bB,rfl,an,_,st⟩:=I.uz (.inl mr);simp only at he;cases al:eB P elem with
     |none=>rw[al] at he;simp at he
     |some aj=>
      rw[al] at he;simp only at he;by_cases dU:cap=cR
      ·subst dU;rw[hX,cc] at he;cases hm:H.mem.get id with
       |none=>rw[hm] at he;simp at he
       |some b=>
        rw[hm] at he;cases b with
        |row cells el opn br eD sh=>
         simp only at he;cases p8:Nat.beq el elem with
         |false=>rw[p8] at he;simp at he
         |true=>
          rw[p8] at he;simp only[lK,dN] at he;have:=eK p8;subst this;obtain⟨c,f,cO,dI,fK,iT,jC,m3,jD⟩:=h.row bB hm;have eI:L.aj=aj:=by rw[<-fK];exact Ox al
          cases ez:kt len len ak with
          |none=>rw[ez] at he;simp at he
          |some g=>
           rw[ez] at he;simp only at he;cases ay:kt 0 g cL with
           |none=>rw[ay] at he;simp at he
           |some l=>
            rw[ay] at he;simp only[b6] at he;subst he;show ∃v',_/\bj μ (.slice _ (g -l) cR) v';rcases st with⟨bx,_,_⟩|⟨_,bT,rfl,dA⟩|⟨_,rfl,rfl⟩
            ·omega
            ·obtain⟨bE,bS,cJ⟩:=Dk (P:=P) (BP:=true) lE mn ez ay bT w;have ar:g<=len:=by
              have:=(Dk (P:=P) (BP:=true) lE mn ez ay (dH _) w).2.2;exact this (dH _)
             by_cases Bm:dY=l
             ·subst Bm;refine⟨.slice (some ⟨L.r,ga,none⟩) (g -dY) (dY -dY),?_,?_⟩
              ·simp[Instr.sliceAt,Instr.slice,eP hu,bE,km al]
              ·have aD:g -dY=0:=by omega
               rw[aD,ta];exact .uy id _ ga L bB
             ·refine⟨.slice (some ⟨L.r,ga+l*aj,none⟩) (g -l) (dY -l),?_,?_⟩
              ·simp[Instr.sliceAt,Instr.slice,eP hu,bE,km al,Bm,Addr.pQ]
              ·refine .oS id _ _ _ L bB (by omega) ?_;rw[eI] at dA ⊢;have:dY*aj=l*aj+(dY -l)*aj:=by rw[<-mC];congr 1;omega
               omega
            ·obtain⟨bE,bS,cJ⟩:=Dk (P:=P) (BP:=true) (x':=0) lE mn ez ay (dH _) w;have:=cJ (dH _);have aD:g=0:=by omega
             have a5:l=0:=by omega
             subst aD;subst a5;refine⟨.slice (some ⟨L.r,ga,none⟩) 0 0,?_,?_⟩
             ·simp[Instr.sliceAt,Instr.slice,eP hu,bE,km al]
             ·exact .uy id _ ga L bB
        |_=>simp at he
      ·rw[Kx dU,dN] at he;rcases st with⟨bx,rfl,rfl⟩|⟨q,_⟩|⟨q,_⟩
       ·cases ez:kt len dY ak with
        |none=>rw[ez] at he;simp at he
        |some g=>
         rw[ez] at he;simp only at he;cases ay:kt 0 g cL with
         |none=>rw[ay] at he;simp at he
         |some l=>
          rw[ay] at he;simp only[b6] at he;subst he;show ∃v',_/\bj μ (.slice (some (bif Nat.beq dY l then _ else _)) (g -l) (dY -l)) v';obtain⟨bE,bS,cJ⟩:=Dk (P:=P) (BP:=true) lE mn ez ay (dH _) w;by_cases df:dY=l
          ·subst df;refine⟨.slice (some ⟨L.r,ga,none⟩) (g -dY) (dY -dY),?_,?_⟩
           ·simp[Instr.sliceAt,Instr.slice,eP hu,bE,km al]
           ·rw[hX,cc];exact .m5 id ga _ _ L bB (by omega)
          ·refine⟨.slice (some ⟨L.r,ga+l*aj,none⟩) (g -l) (dY -l),?_,?_⟩
           ·simp[Instr.sliceAt,Instr.slice,eP hu,bE,km al,df,Addr.pQ]
           ·rw[Kx df,dN];exact .m5 id _ _ _ L bB (by omega)
       ·exact absurd q dU
       ·exact absurd q dU
   |_=>simp at he
  |_=>simp at he
theorem Xh(z:List Value):gp z 0=[]:=by
 rcases z with _|⟨a,_|⟨b,z⟩⟩<;>rfl
theorem Pj(z:List Value)(n:Nat):gp z (n+1)=z++gp z n:=by
 rcases z with _|⟨a,_|⟨b,z⟩⟩<;>rfl
theorem Ph(z:List Value)(n:Nat):(gp z n).length=n*z.length:=by
 induction n with
 |zero=>simp[Xh]
 |succ n aG=>simp[Pj,aG,pN];omega
theorem alC(z:List Value)(n i:Nat)(h:i<n*z.length):(gp z n)[i]?=z[i % z.length]?:=by
 induction n generalizing i with
 |zero=>simp at h
 |succ n aG=>
  simp only[Pj];rw[PJ];split
  ·rename_i ak;rw[Nat.mod_eq_of_lt ak]
  ·rename_i ak;rw[aG (i -z.length) (by rw[pN] at h;omega)];congr 1
   exact(Nat.mod_eq_sub_mod (by omega)).symm
theorem Gg{z:List Value}{n:Nat}{v:Value}{p:Value->Prop}(h:v∈gp z n)(au:∀u∈z,p u):p v:=by
 induction n with
 |zero=>simp[Xh] at h
 |succ m aG=>
  simp only[Pj,lL] at h;rcases h with h|h
  ·exact au v h
  ·exact aG h
theorem KC{t:TypeId}{n:Nat}(h:tp P t=some n):∃i,P.info? t=some i/\i.bytes=n:=by
 unfold tp at h;cases ak:P.info? t with
 |none=>rw[ak] at h;cases h
 |some i=>rw[ak] at h;injection h with h;exact⟨i,rfl,h⟩
theorem Gh(z:List Value)(n:Nat):(Array.range (n*z.length)).map (fun i=>(z.toArray)[i % z.toArray.size]!)=(gp z n).toArray:=by
 apply CF
 intro i;by_cases ak:i<n*z.length
 ·have bC:0<z.length:=by
   rcases Nat.eq_zero_or_pos z.length with q|q
   ·rw[q] at ak;simp at ak
   ·exact q
  have hm:i % z.length<z.length:=Nat.mod_lt _ bC;have e:(gp z n).toArray[i]?=z[i % z.length]?:=by rw[<-alC z n i ak];simp
  rw[e];simp[ak,hm]
 ·rw[rT (by simp;omega),rT (by simp[Ph];omega)]
theorem oO{v:Value}(h:plain v=true):bj μ v v:=bj.agq h
theorem Ja{v v':Value}(h:plain v=true)(ax:bj μ v v'):v'=v:=bj.Ja h ax
theorem bN.Cm{l:List Value}(h:∀v∈l,bj μ v v):bN μ l l:=⟨rfl,fun i v v' a b=>by
 rw[a] at b;injection b with b;subst b;exact h v (cV a)⟩
theorem aaQ(h:bR P B w0 μ H w){t:TypeId}{l l' c b1 v:Value}(ay:bj μ l l')(av:bj μ c b1)(he:DP P H t l c=some (v,H')):
 ∃v' bb bk,(Instr.makeSlice t l' b1).run P w=.ok v' bb/\bR P B w0 bk H' bb/\Step μ bk H H'/\bj bk v v':=by
 unfold DP at he;cases l with
 |int a' l=>
  cases c with
  |int bd c=>
   obtain rfl:=ay.pu;obtain rfl:=av.pu;cases hu:P.underlying t with
   |none=>rw[hu] at he;simp at he
   |some d=>
    rw[hu] at he;cases d with
    |slice elem=>
     simp only at he;cases bC:fO P elem with
     |none=>rw[bC] at he;simp at he
     |some z=>
      rw[bC] at he;cases h1:tp P elem with
      |none=>rw[h1] at he;simp at he
      |some hZ=>
       rw[h1] at he;cases al:eB P elem with
       |none=>rw[al] at he;simp at he
       |some aj=>
        rw[al] at he;simp only at he;cases p5:pt c 1000000 with
        |none=>rw[p5] at he;simp at he
        |some aP=>
         rw[p5] at he;cases de:pt l 1000000 with
         |none=>rw[de] at he;simp at he
         |some zG=>
          rw[de] at he;simp only at he;cases vq:(Nat.ble zG aP&&Nat.ble hZ 1000000&&Nat.beq z.cells.toList.length aj&&z.cells.toList.all eT&&plain z) with
          |false=>rw[vq] at he;simp at he
          |true=>
           rw[vq,cc] at he;simp only[fR] at vq;obtain⟨⟨⟨⟨aZ,aR⟩,bY⟩,ep⟩,gl⟩:=vq;have aZ:=hC aZ;have aR:=hC aR;have bY:=eK bY;obtain⟨rfl,jv⟩:=BM p5;obtain⟨rfl,oA⟩:=BM de;cases aM:sO H elem (gp z.cells.toList aP) with
           |none=>rw[aM] at he;simp at he
           |some p=>
            obtain⟨id,H1⟩:=p;rw[aM] at he;simp only[b6,da] at he;obtain⟨rfl,rfl⟩:=he;have rr:bN μ z.cells.toList z.cells.toList:=(oO gl).cells;have vo:bN μ (gp z.cells.toList aP) (gp z.cells.toList aP):=bN.Cm fun v ap=>by
                exact Gg (p:=fun v=>bj μ v v) ap (fun u hu=>by
                 obtain⟨i,ak⟩:=lM.1 hu;exact rr.2 i u u ak ak)
            obtain⟨bk,L,a,b,bx,d1,_⟩:=NG h vo aM;refine⟨.slice (some ⟨w.heap.size,0,none⟩) zG aP,_,bk,?_,a,b,?_⟩
            ·obtain⟨i,ak,rfl⟩:=KC h1
             have qi:i.zero=some z:=by simpa[fO,ak] using bC
             have rp:i.size=aj:=by simpa[eB,ak] using al
             have hmul:i.bytes*aP<=1000000*1000000:=PY aR jv;have lX:=Gh z.cells.toList aP;have gK:=run_make (P:=P) w t elem i z hu ak qi a' bd (zG:Int) (aP:Int) (by omega) (by omega) (by
                 have:(i.bytes:Int)*(aP:Int)=((i.bytes*aP:Nat):Int):=by simp
                 rw[this];omega) (by omega)
             rw[gK];simp only[ea];congr 3
             rw[<-lX];simp[madeCells,rp,<-bY]
            ·rw[<-d1];exact .m5 id 0 zG aP L bx (by have:(1000000:Nat)<cR:=by decide
                                                    omega)
    |_=>simp at he
  |_=>simp at he
 |_=>simp at he
end
end
end Go.Cre
namespace Go.Cre
noncomputable section
open Go.RowKit
section
variable {P:Program}{B:Nat->Prop}{w0 w:World}{μ:bH}{H H':ao}
theorem Uc{x dD:Value}{m:Nat}(I:bj μ x dD)(hm:ql x=some m)(w:World):(Builtin.lenOf dD).run P w=.ok m w:=by
 cases x with
 |slice a len cap=>
  simp[ql] at hm;subst hm;cases a with
  |none=>rw[I.rO];simp[Builtin.lenOf]
  |some a=>obtain⟨bA,dY,rfl⟩:=I.x4;simp[Builtin.lenOf]
 |string s=>rw[I.FZ];simp[ql] at hm;subst hm;rfl
 |_=>simp[ql] at hm
theorem YE(s:ByteArray)(n:Nat):((s.extract 0 n).data.map fun b=>Value.int .u8 b.toNat)=((s.data.toList.take n).map fun b=>Value.int .u8 b.toNat).toArray:=by
 apply qI
 simp[ByteArray.data_extract]
theorem Hk(h:bR P B w0 μ H w){x dD:Value}{aj n m:Nat}{l:List Value}(I:bj μ x dD)(hm:ql x=some m)(aM:n<=m)(he:jt H aj n x=some l):
 ∃l',bN μ l l'/\∀gD,(Builtin.firstCells aj n dD).run P {w with drawn:=gD}=.ok l'.toArray {w with drawn:=gD}:=by
 cases x with
 |slice a len cap=>
  simp[ql] at hm;subst hm;cases a with
  |none=>
   rw[I.rO];cases n with
   |zero=>simp[jt] at he;subst he;exact⟨[],bN.nil _,fun gD=>by simp[Builtin.firstCells]⟩
   |succ n=>simp[jt] at he
  |some a=>
   cases n with
   |zero=>
    obtain⟨bA,dY,rfl⟩:=I.x4;simp[jt] at he;subst he;exact⟨[],bN.nil _,fun gD=>by simp[Builtin.firstCells,loadCells,loadCellsFrom]⟩
   |succ n=>
    obtain⟨id,off,L,ga,dY,rfl,bB,rfl,an,_⟩:=I.uz (.inr (.inl (by omega)));simp only[jt] at he;rw[an (by omega)];cases sy:H.mem.get id with
    |none=>rw[sy] at he;simp at he
    |some b=>
     rw[sy] at he;cases b with
     |row cells elem opn br eD sh=>
      simp only at he;obtain⟨l',b4,bX,cg⟩:=h.cells bB sy he;refine⟨l',b4,fun gD=>?_⟩;exact run_firstCells_some (P:=P) {w with drawn:=gD} aj (n+1) ⟨L.r,off,none⟩ len dY l' (by rw[bX]) (fun j v aU=>by rw[Addr.pQ];exact cg j v aU)
     |_=>simp at he
 |string s=>
  rw[I.FZ];simp only[jt] at he;cases aN:takeN n s.data.toList with
  |none=>rw[aN] at he;simp at he
  |some bs=>
   rw[aN] at he;simp only[b6] at he;subst he;obtain⟨aD,a5,cC⟩:=Cs aN;refine⟨bs.map fun b=>.int .u8 b.toNat,bN.Cm fun v ap=>?_,fun gD=>?_⟩
   ·obtain⟨b,_,rfl⟩:=m8.1 ap;exact .atom _ rfl
   ·simp only[Builtin.firstCells,YE,aD];rfl
 |_=>simp[ql] at hm
theorem Ok(t hq eV e:TypeId)(eZ:TypeDesc)(i:TypeInfo)(z:Value)(aN:P.underlying t=some (.slice e))(kg:P.underlying hq=some eZ)(vu:∀k,eZ≠.int k)(ak:P.info? e=some i)(bC:i.zero=some z)
 (base:Option Addr)(c4 h3 n:Nat)(x:Value)(UQ news:List Value)(hlen:∀w,(Builtin.lenOf x).run P w=.ok n w)
 (hold:∀gD,(Builtin.firstCells i.size c4 (.slice base c4 h3)).run P {w with drawn:=gD}=.ok UQ.toArray {w with drawn:=gD})
 (mV:∀gD,(Builtin.firstCells i.size n x).run P {w with drawn:=gD}=.ok news.toArray {w with drawn:=gD})
 (ar:h3<c4+n) (abX:c4+n<=1000000) (h1:i.bytes<=1000000):
 (Builtin.append_ #[t,hq] eV #[.slice base c4 h3,x]).run P w=
  .ok (.slice (some ⟨w.heap.size,0,none⟩) (c4+n) (grownCap w (c4+n) h3 e))
   (w.drew.alloc (.cells (UQ.toArray++(news.toArray++Builtin.zeroCells z.cells (grownCap w (c4+n) h3 e -(c4+n)))) e)):=by
 have aM:¬(c4+n<=h3):=by omega
 have abY:¬(9223372036854775807<((c4:Int)+(n:Int))):=by omega
 have hmul:(c4+n)*i.bytes<=1000000*1000000:=PY abX h1
 have abW:¬(281474976710656<Builtin.nextslicecap (c4+n) h3*i.bytes):=by
  have:=growslice_fits (bytes:=i.bytes) ar (by omega);omega
 have an:=hold (w.drawn+1);have hw:=mV (w.drawn+1);have aa9:({w with drawn:=w.drawn+1}:World)=w.drew:=rfl;rw[aa9] at an hw;simp[Builtin.append_,run_underlying aN,run_underlying kg,sizeOf,typeInfo,zeroValue,ak,bC,hlen,aM,abY,abW,Question.forced,hw,an,newRow,grownCap]
theorem Jq(t hq eV e:TypeId)(eZ:TypeDesc)(i:TypeInfo)(aN:P.underlying t=some (.slice e))(kg:P.underlying hq=some eZ)(vu:∀k,eZ≠.int k)(ak:P.info? e=some i)
 (base:Option Addr)(c4 h3 n:Nat)(x:Value)(news:List Value)(bb:World)(hlen:∀w,(Builtin.lenOf x).run P w=.ok n w)
 (mV:(Builtin.firstCells i.size n x).run P w=.ok news.toArray w)(ar:c4+n<=h3)
 (c0:∀a,base=some a->(storeCells (a.add (c4*i.size)) news).run P w=.ok () bb)(gj:base=none->bb=w):
 (Builtin.append_ #[t,hq] eV #[.slice base c4 h3,x]).run P w=.ok (.slice base (c4+n) h3) bb:=by
 cases base with
 |none=>
  rw[gj rfl];simp[Builtin.append_,run_underlying aN,run_underlying kg,sizeOf,typeInfo,ak,hlen,ar,mV]
 |some a=>
  have:=c0 a rfl;simp[Builtin.append_,run_underlying aN,run_underlying kg,sizeOf,typeInfo,ak,hlen,ar,mV,this]
end
end
end Go.Cre

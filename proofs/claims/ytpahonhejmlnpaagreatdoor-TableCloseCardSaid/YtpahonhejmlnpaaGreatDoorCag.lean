/- A part of the proof of TableClose. -/
import Derived.Test.YtpahonhejmlnpaaGreatDoorCaf
import Derived.Laws.MakeOwn
set_option linter.unusedVariables false
set_option linter.unusedSimpArgs false
namespace Go.Cre
noncomputable section
open Go.RowKit
section
variable {P:Program}{B:Nat->Prop}{w0 w:World}{μ:bz}{H H':ai}
def zo(μ:bz):Option Value->Option Value->Prop
 |none,none=>True
 |some v,some v'=>bc μ v v'
 |_,_=>False
theorem run_sliceBound{k:IntKind}{n y:Nat}(h:n<=y)(code:BoundsCode)(w:World):(Instr.sliceBound (.int k (n:Int)) y code).run P w=.ok n w:=by
 have:(n:Int)<=(y:Int):=by omega
 simp[Instr.sliceBound,asIntOf,this]
theorem zy{gE s5 ar jP:Option Value}(hM:zo μ gE s5)(kd:zo μ ar jP){len top uM h l:Nat}{yn:Bool}(cS:jy len top ar=some h)(aA:jy 0 h gE=some l)(aM:top<=uM)(w:World):
 (Instr.sliceBounds yn len uM s5 jP none).run P w=.ok (l,h,uM) w/\l<=h/\(len<=uM->h<=uM):=by
 have aa:(ar=none/\jP=none/\h=len)\/(∃k,ar=some (.int k h)/\jP=some (.int k h)/\h<=top):=by
  cases ar with
  |none=>cases jP with
   |none=>simp[jy] at cS;exact .inl ⟨rfl,rfl,cS.symm⟩
   |some v=>exact kd.elim
  |some v=>cases jP with
   |none=>exact kd.elim
   |some v'=>
    cases v with
    |int k i=>
     obtain⟨rfl,hle⟩:=yl (by simpa[jy] using cS);have:=bc.nD kd;subst this;exact .inr ⟨k,rfl,rfl,hle⟩
    |_=>simp[jy] at cS
 have ab:(gE=none/\s5=none/\l=0)\/(∃k,gE=some (.int k l)/\s5=some (.int k l)/\l<=h):=by
  cases gE with
  |none=>cases s5 with
   |none=>simp[jy] at aA;exact .inl ⟨rfl,rfl,aA.symm⟩
   |some v=>exact hM.elim
  |some v=>cases s5 with
   |none=>exact hM.elim
   |some v'=>
    cases v with
    |int k i=>
     obtain⟨rfl,hle⟩:=yl (by simpa[jy] using aA);have:=bc.nD hM;subst this;exact .inr ⟨k,rfl,rfl,hle⟩
    |_=>simp[jy] at aA
 rcases aa with⟨_,rfl,rfl⟩|⟨k,_,rfl,aC⟩<;>rcases ab with⟨_,rfl,rfl⟩|⟨jE,_,rfl,aZ⟩
 ·exact⟨by simp[Instr.sliceBounds],by omega,by omega⟩
 ·exact⟨by simp[Instr.sliceBounds,run_sliceBound aZ],by omega,by omega⟩
 ·exact⟨by simp[Instr.sliceBounds,run_sliceBound (show h<=uM by omega)],by omega,by omega⟩
 ·exact⟨by simp[Instr.sliceBounds,run_sliceBound (show h<=uM by omega),run_sliceBound aZ],by omega,by omega⟩
theorem FY{a b:Nat}(h:a≠b):Nat.beq a b=false:=by
 cases q:Nat.beq a b
 ·rfl
 ·exact absurd (dX q) h
theorem VH(h:bL P B w0 μ H w){t:TypeId}{x dg v:Value}{gE s5 ar jP:Option Value}(U:bc μ x dg)(hM:zo μ gE s5)(kd:zo μ ar jP)(he:jN P H t x gE ar=some v):
 ∃v',(Instr.sliceAt t dg s5 jP none).run P w=.ok v' w/\bc μ v v':=by
 unfold jN at he;cases hu:P.underlying t with
 |none=>rw[hu] at he;simp at he
 |some d=>
  rw[hu] at he;cases d with
  |array n elem=>
   cases x with
   |pointer a=>
    cases a with
    |none=>simp at he
    |some a=>
     obtain⟨id,off,L,rfl,bP,rfl⟩:=U.me;simp only at he;cases af:ea P elem with
     |none=>rw[af] at he;simp at he
     |some sz=>
      rw[af] at he;simp only at he;cases kO:Nat.blt n cu with
      |false=>rw[kO] at he;simp at he
      |true=>
      rw[kO] at he;simp only[lT,da] at he;have agK:n<cu:=gy kO;cases cS:jy n n ar with
      |none=>rw[cS] at he;simp at he
      |some xU=>
       rw[cS] at he;simp only at he;cases aA:jy 0 xU gE with
       |none=>rw[aA] at he;simp at he
       |some l=>
        rw[aA] at he;simp only[b9] at he;subst he;obtain⟨br,bN,cW⟩:=zy (P:=P) (yn:=false) hM kd cS aA (c5 _) w;show ∃v',_/\bc μ (.slice (some (bif Nat.beq n l then _ else _)) (xU -l) (n -l)) v';by_cases dI:n=l
        ·subst dI;refine⟨.slice (some ⟨L.r,off,none⟩) (xU -n) (n -n),?_,?_⟩
         ·simp[Instr.sliceAt,ec hu,Instr.sureAddr,br,iX af]
         ·rw[gH n,b1];exact .lq id off (xU -n) (n -n) L bP (by omega)
        ·refine⟨.slice (some ⟨L.r,off+l*sz,none⟩) (xU -l) (n -l),?_,?_⟩
         ·simp[Instr.sliceAt,ec hu,Instr.sureAddr,br,iX af,dI,Addr.nY]
         ·rw[FY dI,da];exact .lq id (off+l*sz) (xU -l) (n -l) L bP (by omega)
   |_=>simp at he
  |slice elem=>
   cases x with
   |slice a len cap=>
    cases a with
    |none=>simp at he
    |some a=>
     have kB:a.spot=none:=by
      cases q:a.spot with
      |none=>rfl
      |some _=>simp[q] at he
     obtain⟨id,off,L,e0,dx,rfl,bP,rfl,ag,_,p2⟩:=U.r2 (.inl kB);simp only at he;cases af:ea P elem with
     |none=>rw[af] at he;simp at he
     |some sz=>
      rw[af] at he;simp only at he;by_cases dC:cap=cu
      ·subst dC;rw[gH,b1] at he;cases hm:H.mem.get id with
       |none=>rw[hm] at he;simp at he
       |some b=>
        rw[hm] at he;cases b with
        |row cells el opn bl dS sh=>
         simp only at he;cases xR:Nat.beq el elem with
         |false=>rw[xR] at he;simp at he
         |true=>
          rw[xR] at he;simp only[lT,da] at he;have:=dX xR;subst this;obtain⟨c,f,cX,cM,fo,ix,qA,Ez,BG⟩:=h.row bP hm;have dA:L.sz=sz:=by rw[<-fo];exact JQ af
          cases cS:jy len len ar with
          |none=>rw[cS] at he;simp at he
          |some g=>
           rw[cS] at he;simp only at he;cases aA:jy 0 g gE with
           |none=>rw[aA] at he;simp at he
           |some l=>
            rw[aA] at he;simp only[b9] at he;subst he;show ∃v',_/\bc μ (.slice _ (g -l) cu) v';rcases p2 with⟨bn,_,_⟩|⟨_,bQ,rfl,cZ⟩|⟨_,rfl,rfl⟩
            ·omega
            ·obtain⟨br,bN,cW⟩:=zy (P:=P) (yn:=true) hM kd cS aA bQ w;have aq:g<=len:=by
              have:=(zy (P:=P) (yn:=true) hM kd cS aA (c5 _) w).2.2;exact this (c5 _)
             by_cases Dr:dx=l
             ·subst Dr;refine⟨.slice (some ⟨L.r,e0,none⟩) (g -dx) (dx -dx),?_,?_⟩
              ·simp[Instr.sliceAt,Instr.slice,ec hu,br,iX af]
              ·have aC:g -dx=0:=by omega
               rw[aC,sf];exact .r1 id _ e0 L bP
             ·refine⟨.slice (some ⟨L.r,e0+l*sz,none⟩) (g -l) (dx -l),?_,?_⟩
              ·simp[Instr.sliceAt,Instr.slice,ec hu,br,iX af,Dr,Addr.nY]
              ·refine .m6 id _ _ _ L bP (by omega) ?_;rw[dA] at cZ ⊢;have:dx*sz=l*sz+(dx -l)*sz:=by rw[<-iC];congr 1;omega
               omega
            ·obtain⟨br,bN,cW⟩:=zy (P:=P) (yn:=true) (uM:=0) hM kd cS aA (c5 _) w;have:=cW (c5 _);have aC:g=0:=by omega
             have aZ:l=0:=by omega
             subst aC;subst aZ;refine⟨.slice (some ⟨L.r,e0,none⟩) 0 0,?_,?_⟩
             ·simp[Instr.sliceAt,Instr.slice,ec hu,br,iX af]
             ·exact .r1 id _ e0 L bP
        |_=>simp at he
      ·rw[FY dC,da] at he;rcases p2 with⟨bn,rfl,rfl⟩|⟨q,_⟩|⟨q,_⟩
       ·cases cS:jy len dx ar with
        |none=>rw[cS] at he;simp at he
        |some g=>
         rw[cS] at he;simp only at he;cases aA:jy 0 g gE with
         |none=>rw[aA] at he;simp at he
         |some l=>
          rw[aA] at he;simp only[b9] at he;subst he;show ∃v',_/\bc μ (.slice (some (bif Nat.beq dx l then _ else _)) (g -l) (dx -l)) v';obtain⟨br,bN,cW⟩:=zy (P:=P) (yn:=true) hM kd cS aA (c5 _) w;by_cases dI:dx=l
          ·subst dI;refine⟨.slice (some ⟨L.r,e0,none⟩) (g -dx) (dx -dx),?_,?_⟩
           ·simp[Instr.sliceAt,Instr.slice,ec hu,br,iX af]
           ·rw[gH,b1];exact .lq id e0 _ _ L bP (by omega)
          ·refine⟨.slice (some ⟨L.r,e0+l*sz,none⟩) (g -l) (dx -l),?_,?_⟩
           ·simp[Instr.sliceAt,Instr.slice,ec hu,br,iX af,dI,Addr.nY]
           ·rw[FY dI,da];exact .lq id _ _ _ L bP (by omega)
       ·exact absurd q dC
       ·exact absurd q dC
   |_=>simp at he
  |_=>simp at he
theorem y5(z:List Value):eN z 0=[]:=by
 rcases z with _|⟨a,_|⟨b,z⟩⟩<;>rfl
theorem wT(z:List Value)(n:Nat):eN z (n+1)=z++eN z n:=by
 rcases z with _|⟨a,_|⟨b,z⟩⟩<;>rfl
theorem Kz(z:List Value)(n:Nat):(eN z n).length=n*z.length:=by
 induction n with
 |zero=>simp[y5]
 |succ n aP=>simp[wT,aP,zn];omega
theorem afj(z:List Value)(n i:Nat)(h:i<n*z.length):(eN z n)[i]?=z[i % z.length]?:=by
 induction n generalizing i with
 |zero=>simp at h
 |succ n aP=>
  simp only[wT];rw[K3];split
  ·rename_i ar;rw[se ar]
  ·rename_i ar;rw[aP (i -z.length) (by rw[zn] at h;omega)];congr 1
   exact(Nat.mod_eq_sub_mod (by omega)).symm
theorem B5{z:List Value}{n:Nat}{v:Value}{p:Value->Prop}(h:v∈eN z n)(ao:∀u∈z,p u):p v:=by
 induction n with
 |zero=>simp[y5] at h
 |succ m aP=>
  simp only[wT,nQ] at h;rcases h with h|h
  ·exact ao v h
  ·exact aP h
theorem F3{t:TypeId}{n:Nat}(h:q6 P t=some n):∃i,P.info? t=some i/\i.bytes=n:=by
 unfold q6 at h;cases ar:P.info? t with
 |none=>rw[ar] at h;cases h
 |some i=>rw[ar] at h;injection h with h;exact⟨i,rfl,h⟩
theorem B6(z:List Value)(n:Nat):(Array.range (n*z.length)).map (fun i=>(z.toArray)[i % z.toArray.size]!)=(eN z n).toArray:=by
 apply y6
 intro i;by_cases ar:i<n*z.length
 ·have a0:0<z.length:=by
   rcases ly z.length with q|q
   ·rw[q] at ar;simp at ar
   ·exact q
  have hm:i % z.length<z.length:=oN _ a0;have e:(eN z n).toArray[i]?=z[i % z.length]?:=by rw[<-afj z n i ar];simp
  rw[e];simp[ar,hm]
 ·rw[pC (by simp;omega),pC (by simp[Kz];omega)]
theorem mZ{v:Value}(h:plain v=true):bc μ v v:=bc.aa4 h
theorem Ev{v v':Value}(h:plain v=true)(al:bc μ v v'):v'=v:=bc.Ev h al
theorem bF.yN{l:List Value}(h:∀v∈l,bc μ v v):bF μ l l:=⟨rfl,fun i v v' a b=>by
 rw[a] at b;injection b with b;subst b;exact h v (k8 a)⟩
theorem VB(h:bL P B w0 μ H w){t:TypeId}{l l' c bw v:Value}(aA:bc μ l l')(aL:bc μ c bw)(he:zW P H t l c=some (v,H')):
 ∃v' a7 bd,(Instr.makeSlice t l' bw).run P w=.ok v' a7/\bL P B w0 bd H' a7/\Step μ bd H H'/\bc bd v v':=by
 unfold zW at he;cases l with
 |int a9 l=>
  cases c with
  |int a4 c=>
   obtain rfl:=aA.nD;obtain rfl:=aL.nD;cases hu:P.underlying t with
   |none=>rw[hu] at he;simp at he
   |some d=>
    rw[hu] at he;cases d with
    |slice elem=>
     simp only at he;cases a0:fG P elem with
     |none=>rw[a0] at he;simp at he
     |some z=>
      rw[a0] at he;cases gJ:q6 P elem with
      |none=>rw[gJ] at he;simp at he
      |some gq=>
       rw[gJ] at he;cases af:ea P elem with
       |none=>rw[af] at he;simp at he
       |some sz=>
        rw[af] at he;simp only at he;cases pZ:nC c 1000000 with
        |none=>rw[pZ] at he;simp at he
        |some jA=>
         rw[pZ] at he;cases db:nC l 1000000 with
         |none=>rw[db] at he;simp at he
         |some f'=>
          rw[db] at he;simp only at he;cases sF:(Nat.ble f' jA&&Nat.ble gq 1000000&&Nat.beq z.cells.toList.length sz&&z.cells.toList.all ev&&plain z) with
          |false=>rw[sF] at he;simp at he
          |true=>
           rw[sF,b1] at he;simp only[fp] at sF;obtain⟨⟨⟨⟨aR,aN⟩,bG⟩,dd⟩,fm⟩:=sF;have aR:=gy aR;have aN:=gy aN;have bG:=dX bG;obtain⟨rfl,hd⟩:=yl pZ;obtain⟨rfl,fZ⟩:=yl db;cases aw:qn H elem (eN z.cells.toList jA) with
           |none=>rw[aw] at he;simp at he
           |some p=>
            obtain⟨id,H1⟩:=p;rw[aw] at he;simp only[b9,c'] at he;obtain⟨rfl,rfl⟩:=he;have ph:bF μ z.cells.toList z.cells.toList:=(mZ fm).cells;have sE:bF μ (eN z.cells.toList jA) (eN z.cells.toList jA):=bF.yN fun v ay=>by
                exact B5 (p:=fun v=>bc μ v v) ay (fun u hu=>by
                 obtain⟨i,ar⟩:=w4.1 hu;exact ph.2 i u u ar ar)
            obtain⟨bd,L,a,b,bn,d1,_⟩:=I4 h sE aw;refine⟨.slice (some ⟨w.heap.size,0,none⟩) f' jA,_,bd,?_,a,b,?_⟩
            ·obtain⟨i,ar,rfl⟩:=F3 gJ
             have ot:i.zero=some z:=by simpa[fG,ar] using a0
             have pb:i.size=sz:=by simpa[ea,ar] using af
             have hmul:i.bytes*jA<=1000000*1000000:=pJ aN hd;have kC:=B6 z.cells.toList jA;have fK:=run_make (P:=P) w t elem i z hu ar ot a9 a4 (f':Int) (jA:Int) (by omega) (by omega) (by
                 have:(i.bytes:Int)*(jA:Int)=((i.bytes*jA:Nat):Int):=by simp
                 rw[this];omega) (by omega)
             rw[fK];simp only[jq];congr 3
             rw[<-kC];simp[madeCells,pb,<-bG]
            ·rw[<-d1];exact .lq id 0 f' jA L bn (by have:(1000000:Nat)<cu:=by decide
                                                    omega)
    |_=>simp at he
  |_=>simp at he
 |_=>simp at he
end
end
end Go.Cre
namespace Go.Cre
noncomputable section
open Go.RowKit
section
variable {P:Program}{B:Nat->Prop}{w0 w:World}{μ:bz}{H H':ai}
theorem Pa{x dg:Value}{m:Nat}(U:bc μ x dg)(hm:ou x=some m)(w:World):(Builtin.lenOf dg).run P w=.ok m w:=by
 cases x with
 |slice a len cap=>
  simp[ou] at hm;subst hm;cases a with
  |none=>rw[U.pz];simp[Builtin.lenOf]
  |some a=>obtain⟨bE,dx,rfl⟩:=U.uH;simp[Builtin.lenOf]
 |string s=>rw[U.BN];simp[ou] at hm;subst hm;rfl
 |_=>simp[ou] at hm
theorem TA(s:ByteArray)(n:Nat):((s.extract 0 n).data.map fun b=>Value.int .u8 b.toNat)=((s.data.toList.take n).map fun b=>Value.int .u8 b.toNat).toArray:=by
 apply oG
 simp[ByteArray.data_extract]
theorem CR(h:bL P B w0 μ H w){x dg:Value}{sz n m:Nat}{l:List Value}(U:bc μ x dg)(hm:ou x=some m)(aw:n<=m)(he:h1 H sz n x=some l):
 ∃l',bF μ l l'/\∀fw,(Builtin.firstCells sz n dg).run P {w with drawn:=fw}=.ok l'.toArray {w with drawn:=fw}:=by
 cases x with
 |slice a len cap=>
  simp[ou] at hm;subst hm;cases a with
  |none=>
   rw[U.pz];cases n with
   |zero=>simp[h1] at he;subst he;exact⟨[],bF.nil _,fun fw=>by simp[Builtin.firstCells]⟩
   |succ n=>simp[h1] at he
  |some a=>
   cases n with
   |zero=>
    obtain⟨bE,dx,rfl⟩:=U.uH;simp[h1] at he;subst he;exact⟨[],bF.nil _,fun fw=>by simp[Builtin.firstCells,loadCells,loadCellsFrom]⟩
   |succ n=>
    obtain⟨id,off,L,e0,dx,rfl,bP,rfl,ag,_⟩:=U.r2 (.inr (.inl (by omega)));simp only[h1] at he;rw[ag (by omega)];cases oi:H.mem.get id with
    |none=>rw[oi] at he;simp at he
    |some b=>
     rw[oi] at he;cases b with
     |row cells elem opn bl dS sh=>
      simp only at he;obtain⟨l',cm,cn,cR⟩:=h.cells bP oi he;refine⟨l',cm,fun fw=>?_⟩;exact run_firstCells_some (P:=P) {w with drawn:=fw} sz (n+1) ⟨L.r,off,none⟩ len dx l' (by rw[cn]) (fun j v a5=>by rw[Addr.nY];exact cR j v a5)
     |_=>simp at he
 |string s=>
  rw[U.BN];simp only[h1] at he;cases aM:takeN n s.data.toList with
  |none=>rw[aM] at he;simp at he
  |some jz=>
   rw[aM] at he;simp only[b9] at he;subst he;obtain⟨aC,aZ,cJ⟩:=yP aM;refine⟨jz.map fun b=>.int .u8 b.toNat,bF.yN fun v ay=>?_,fun fw=>?_⟩
   ·obtain⟨b,_,rfl⟩:=qU.1 ay;exact .atom _ rfl
   ·simp only[Builtin.firstCells,TA,aC];rfl
 |_=>simp[ou] at hm
theorem JJ(t gu dK e:TypeId)(dZ:TypeDesc)(i:TypeInfo)(z:Value)(aM:P.underlying t=some (.slice e))(iS:P.underlying gu=some dZ)(sJ:∀k,dZ≠.int k)(ar:P.info? e=some i)(a0:i.zero=some z)
 (base:Option Addr)(cN gX n:Nat)(x:Value)(PV news:List Value)(hlen:∀w,(Builtin.lenOf x).run P w=.ok n w)
 (hold:∀fw,(Builtin.firstCells i.size cN (.slice base cN gX)).run P {w with drawn:=fw}=.ok PV.toArray {w with drawn:=fw})
 (lj:∀fw,(Builtin.firstCells i.size n x).run P {w with drawn:=fw}=.ok news.toArray {w with drawn:=fw})
 (aq:gX<cN+n) (WE:cN+n<=1000000) (gJ:i.bytes<=1000000):
 (Builtin.append_ #[t,gu] dK #[.slice base cN gX,x]).run P w=
  .ok (.slice (some ⟨w.heap.size,0,none⟩) (cN+n) (grownCap w (cN+n) gX e))
   (w.drew.alloc (.cells (PV.toArray++(news.toArray++Builtin.zeroCells z.cells (grownCap w (cN+n) gX e -(cN+n)))) e)):=by
 have aw:¬(cN+n<=gX):=by omega
 have WG:¬(9223372036854775807<((cN:Int)+(n:Int))):=by omega
 have hmul:(cN+n)*i.bytes<=1000000*1000000:=pJ WE gJ
 have WD:¬(281474976710656<Builtin.nextslicecap (cN+n) gX*i.bytes):=by
  have:=growslice_fits (bytes:=i.bytes) aq (by omega);omega
 have ag:=hold (w.drawn+1);have hw:=lj (w.drawn+1);have CW:({w with drawn:=w.drawn+1}:World)=w.drew:=rfl;rw[CW] at ag hw;simp[Builtin.append_,run_underlying aM,run_underlying iS,sizeOf,typeInfo,zeroValue,ar,a0,hlen,aw,WG,WD,Question.forced,hw,ag,newRow,grownCap]
theorem EF(t gu dK e:TypeId)(dZ:TypeDesc)(i:TypeInfo)(aM:P.underlying t=some (.slice e))(iS:P.underlying gu=some dZ)(sJ:∀k,dZ≠.int k)(ar:P.info? e=some i)
 (base:Option Addr)(cN gX n:Nat)(x:Value)(news:List Value)(a7:World)(hlen:∀w,(Builtin.lenOf x).run P w=.ok n w)
 (lj:(Builtin.firstCells i.size n x).run P w=.ok news.toArray w)(aq:cN+n<=gX)
 (dM:∀a,base=some a->(storeCells (a.add (cN*i.size)) news).run P w=.ok () a7)(gD:base=none->a7=w):
 (Builtin.append_ #[t,gu] dK #[.slice base cN gX,x]).run P w=.ok (.slice base (cN+n) gX) a7:=by
 cases base with
 |none=>
  rw[gD rfl];simp[Builtin.append_,run_underlying aM,run_underlying iS,sizeOf,typeInfo,ar,hlen,aq,lj]
 |some a=>
  have:=dM a rfl;simp[Builtin.append_,run_underlying aM,run_underlying iS,sizeOf,typeInfo,ar,hlen,aq,lj,this]
end
end
end Go.Cre

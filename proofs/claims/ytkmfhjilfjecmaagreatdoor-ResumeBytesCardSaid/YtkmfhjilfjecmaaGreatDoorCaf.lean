/- A part of the proof of ResumeBytes. -/
import Derived.Test.YtkmfhjilfjecmaaGreatDoorCae
import Derived.Laws.MakeOwn
set_option linter.unusedVariables false
set_option linter.unusedSimpArgs false
namespace Go.Cre
noncomputable section
open Go.RowKit
section
variable {P:Program}{B:Nat->Prop}{w0 w:World}{μ:bY}{H H':aA}
def FM(μ:bY):Option Value->Option Value->Prop
 |none,none=>True
 |some v,some v'=>bB μ v v'
 |_,_=>False
theorem run_sliceBound{k:IntKind}{n y:Nat}(h:n<=y)(code:BoundsCode)(w:World):(Instr.sliceBound (.int k (n:Int)) y code).run P w=.ok n w:=by
 have:(n:Int)<=(y:Int):=by omega
 simp[Instr.sliceBound,asIntOf,this]
theorem Gd{cm lo' ao hi':Option Value}(lg:FM μ cm lo')(nd:FM μ ao hi'){len top Ab h l:Nat}{EG:Bool}(dZ:lE len top ao=some h)(av:lE 0 h cm=some l)(aB:top<=Ab)(w:World):
 (Instr.sliceBounds EG len Ab lo' hi' none).run P w=.ok (l,h,Ab) w/\l<=h/\(len<=Ab->h<=Ab):=by
 have aa:(ao=none/\hi'=none/\h=len)\/(∃k,ao=some (.int k h)/\hi'=some (.int k h)/\h<=top):=by
  cases ao with
  |none=>cases hi' with
   |none=>simp[lE] at dZ;exact .inl ⟨rfl,rfl,dZ.symm⟩
   |some v=>exact nd.elim
  |some v=>cases hi' with
   |none=>exact nd.elim
   |some v'=>
    cases v with
    |int k i=>
     obtain⟨rfl,hle⟩:=EE (by simpa[lE] using dZ);have:=bB.qx nd;subst this;exact .inr ⟨k,rfl,rfl,hle⟩
    |_=>simp[lE] at dZ
 have ae:(cm=none/\lo'=none/\l=0)\/(∃k,cm=some (.int k l)/\lo'=some (.int k l)/\l<=h):=by
  cases cm with
  |none=>cases lo' with
   |none=>simp[lE] at av;exact .inl ⟨rfl,rfl,av.symm⟩
   |some v=>exact lg.elim
  |some v=>cases lo' with
   |none=>exact lg.elim
   |some v'=>
    cases v with
    |int k i=>
     obtain⟨rfl,hle⟩:=EE (by simpa[lE] using av);have:=bB.qx lg;subst this;exact .inr ⟨k,rfl,rfl,hle⟩
    |_=>simp[lE] at av
 rcases aa with⟨_,rfl,rfl⟩|⟨k,_,rfl,aL⟩<;>rcases ae with⟨_,rfl,rfl⟩|⟨ft,_,rfl,bk⟩
 ·exact⟨by simp[Instr.sliceBounds],by omega,by omega⟩
 ·exact⟨by simp[Instr.sliceBounds,run_sliceBound bk],by omega,by omega⟩
 ·exact⟨by simp[Instr.sliceBounds,run_sliceBound (show h<=Ab by omega)],by omega,by omega⟩
 ·exact⟨by simp[Instr.sliceBounds,run_sliceBound (show h<=Ab by omega),run_sliceBound bk],by omega,by omega⟩
theorem Nd{a b:Nat}(h:a≠b):Nat.beq a b=false:=by
 cases q:Nat.beq a b
 ·rfl
 ·exact absurd (eO q) h
theorem ae5(h:b9 P B w0 μ H w){t:TypeId}{x dR v:Value}{cm lo' ao hi':Option Value}(U:bB μ x dR)(lg:FM μ cm lo')(nd:FM μ ao hi')(he:oS P H t x cm ao=some v):
 ∃v',(Instr.sliceAt t dR lo' hi' none).run P w=.ok v' w/\bB μ v v':=by
 unfold oS at he;cases hu:P.underlying t with
 |none=>rw[hu] at he;simp at he
 |some d=>
  rw[hu] at he;cases d with
  |array n elem=>
   cases x with
   |pointer a=>
    cases a with
    |none=>simp at he
    |some a=>
     obtain⟨id,off,L,rfl,bS,rfl⟩:=U.pf;simp only at he;cases hs:ef P elem with
     |none=>rw[hs] at he;simp at he
     |some sz=>
      rw[hs] at he;simp only at he;cases qj:Nat.blt n cZ with
      |false=>rw[qj] at he;simp at he
      |true=>
      rw[qj] at he;simp only[lY,dT] at he;have as1:n<cZ:=hV qj;cases dZ:lE n n ao with
      |none=>rw[dZ] at he;simp at he
      |some Ee=>
       rw[dZ] at he;simp only at he;cases av:lE 0 Ee cm with
       |none=>rw[av] at he;simp at he
       |some l=>
        rw[av] at he;simp only[cp] at he;subst he;obtain⟨b1,b2,b3⟩:=Gd (P:=P) (EG:=false) lg nd dZ av (cW _) w;show ∃v',_/\bB μ (.slice (some (bif Nat.beq n l then _ else _)) (Ee -l) (n -l)) v';by_cases cr:n=l
        ·subst cr;refine⟨.slice (some ⟨L.r,off,none⟩) (Ee -n) (n -n),?_,?_⟩
         ·simp[Instr.sliceAt,e1 hu,Instr.sureAddr,b1,kG hs]
         ·rw[hz n,b7];exact .nU id off (Ee -n) (n -n) L bS (by omega)
        ·refine⟨.slice (some ⟨L.r,off+l*sz,none⟩) (Ee -l) (n -l),?_,?_⟩
         ·simp[Instr.sliceAt,e1 hu,Instr.sureAddr,b1,kG hs,cr,Addr.rc]
         ·rw[Nd cr,dT];exact .nU id (off+l*sz) (Ee -l) (n -l) L bS (by omega)
   |_=>simp at he
  |slice elem=>
   cases x with
   |slice a len cap=>
    cases a with
    |none=>simp at he
    |some a=>
     have om:a.spot=none:=by
      cases q:a.spot with
      |none=>rfl
      |some _=>simp[q] at he
     obtain⟨id,off,L,gf,eh,rfl,bS,rfl,ar,_,tZ⟩:=U.yl (.inl om);simp only at he;cases hs:ef P elem with
     |none=>rw[hs] at he;simp at he
     |some sz=>
      rw[hs] at he;simp only at he;by_cases d':cap=cZ
      ·subst d';rw[hz,b7] at he;cases hm:H.mem.get id with
       |none=>rw[hm] at he;simp at he
       |some b=>
        rw[hm] at he;cases b with
        |row cells el opn bI eA sh=>
         simp only at he;cases kw:Nat.beq el elem with
         |false=>rw[kw] at he;simp at he
         |true=>
          rw[kw] at he;simp only[lY,dT] at he;have:=eO kw;subst this;obtain⟨c,f,cO,ed,gr,iG,mK,qI,mn⟩:=h.row bS hm;have eV:L.sz=sz:=by rw[<-gr];exact RB hs
          cases dZ:lE len len ao with
          |none=>rw[dZ] at he;simp at he
          |some g=>
           rw[dZ] at he;simp only at he;cases av:lE 0 g cm with
           |none=>rw[av] at he;simp at he
           |some l=>
            rw[av] at he;simp only[cp] at he;subst he;show ∃v',_/\bB μ (.slice _ (g -l) cZ) v';rcases tZ with⟨c1,_,_⟩|⟨_,c2,rfl,c3⟩|⟨_,rfl,rfl⟩
            ·omega
            ·obtain⟨b1,b2,b3⟩:=Gd (P:=P) (EG:=true) lg nd dZ av c2 w;have aq:g<=len:=by
              have:=(Gd (P:=P) (EG:=true) lg nd dZ av (cW _) w).2.2;exact this (cW _)
             by_cases Eg:eh=l
             ·subst Eg;refine⟨.slice (some ⟨L.r,gf,none⟩) (g -eh) (eh -eh),?_,?_⟩
              ·simp[Instr.sliceAt,Instr.slice,e1 hu,b1,kG hs]
              ·have aL:g -eh=0:=by omega
               rw[aL,sf];exact .wy id _ gf L bS
             ·refine⟨.slice (some ⟨L.r,gf+l*sz,none⟩) (g -l) (eh -l),?_,?_⟩
              ·simp[Instr.sliceAt,Instr.slice,e1 hu,b1,kG hs,Eg,Addr.rc]
              ·refine .pW id _ _ _ L bS (by omega) ?_;rw[eV] at c3 ⊢;have:eh*sz=l*sz+(eh -l)*sz:=by rw[<-nA];congr 1;omega
               omega
            ·obtain⟨b1,b2,b3⟩:=Gd (P:=P) (EG:=true) (Ab:=0) lg nd dZ av (cW _) w;have:=b3 (cW _);have aL:g=0:=by omega
             have bk:l=0:=by omega
             subst aL;subst bk;refine⟨.slice (some ⟨L.r,gf,none⟩) 0 0,?_,?_⟩
             ·simp[Instr.sliceAt,Instr.slice,e1 hu,b1,kG hs]
             ·exact .wy id _ gf L bS
        |_=>simp at he
      ·rw[Nd d',dT] at he;rcases tZ with⟨c1,rfl,rfl⟩|⟨q,_⟩|⟨q,_⟩
       ·cases dZ:lE len eh ao with
        |none=>rw[dZ] at he;simp at he
        |some g=>
         rw[dZ] at he;simp only at he;cases av:lE 0 g cm with
         |none=>rw[av] at he;simp at he
         |some l=>
          rw[av] at he;simp only[cp] at he;subst he;show ∃v',_/\bB μ (.slice (some (bif Nat.beq eh l then _ else _)) (g -l) (eh -l)) v';obtain⟨b1,b2,b3⟩:=Gd (P:=P) (EG:=true) lg nd dZ av (cW _) w;by_cases cr:eh=l
          ·subst cr;refine⟨.slice (some ⟨L.r,gf,none⟩) (g -eh) (eh -eh),?_,?_⟩
           ·simp[Instr.sliceAt,Instr.slice,e1 hu,b1,kG hs]
           ·rw[hz,b7];exact .nU id gf _ _ L bS (by omega)
          ·refine⟨.slice (some ⟨L.r,gf+l*sz,none⟩) (g -l) (eh -l),?_,?_⟩
           ·simp[Instr.sliceAt,Instr.slice,e1 hu,b1,kG hs,cr,Addr.rc]
           ·rw[Nd cr,dT];exact .nU id _ _ _ L bS (by omega)
       ·exact absurd q d'
       ·exact absurd q d'
   |_=>simp at he
  |_=>simp at he
theorem aaH(z:List Value):gG z 0=[]:=by
 rcases z with _|⟨a,_|⟨b,z⟩⟩<;>rfl
theorem Sb(z:List Value)(n:Nat):gG z (n+1)=z++gG z n:=by
 rcases z with _|⟨a,_|⟨b,z⟩⟩<;>rfl
theorem Sa(z:List Value)(n:Nat):(gG z n).length=n*z.length:=by
 induction n with
 |zero=>simp[aaH]
 |succ n aI=>simp[Sb,aI,po];omega
theorem aqD(z:List Value)(n i:Nat)(h:i<n*z.length):(gG z n)[i]?=z[i % z.length]?:=by
 induction n generalizing i with
 |zero=>simp at h
 |succ n aI=>
  simp only[Sb];rw[SF];split
  ·rename_i ao;rw[Nat.mod_eq_of_lt ao]
  ·rename_i ao;rw[aI (i -z.length) (by rw[po] at h;omega)];congr 1
   exact(Nat.mod_eq_sub_mod (by omega)).symm
theorem ML{z:List Value}{n:Nat}{v:Value}{p:Value->Prop}(h:v∈gG z n)(au:∀u∈z,p u):p v:=by
 induction n with
 |zero=>simp[aaH] at h
 |succ m aI=>
  simp only[Sb,ko] at h;rcases h with h|h
  ·exact au v h
  ·exact aI h
theorem Nk{t:TypeId}{n:Nat}(h:vh P t=some n):∃i,P.info? t=some i/\i.bytes=n:=by
 unfold vh at h;cases ao:P.info? t with
 |none=>rw[ao] at h;cases h
 |some i=>rw[ao] at h;injection h with h;exact⟨i,rfl,h⟩
theorem MM(z:List Value)(n:Nat):(Array.range (n*z.length)).map (fun i=>(z.toArray)[i % z.toArray.size]!)=(gG z n).toArray:=by
 apply Fu
 intro i;by_cases ao:i<n*z.length
 ·have bE:0<z.length:=by
   rcases M0 z.length with q|q
   ·rw[q] at ao;simp at ao
   ·exact q
  have hm:i % z.length<z.length:=Nat.mod_lt _ bE;have e:(gG z n).toArray[i]?=z[i % z.length]?:=by rw[<-aqD z n i ao];simp
  rw[e];simp[ao,hm]
 ·rw[tg (by simp;omega),tg (by simp[Sa];omega)]
theorem qG{v:Value}(h:plain v=true):bB μ v v:=bB.alN h
theorem Cj{v v':Value}(h:plain v=true)(aw:bB μ v v'):v'=v:=bB.Cj h aw
theorem b0.I3{l:List Value}(h:∀v∈l,bB μ v v):b0 μ l l:=⟨rfl,fun i v v' a b=>by
 rw[a] at b;injection b with b;subst b;exact h v (cb a)⟩
theorem aeY(h:b9 P B w0 μ H w){t:TypeId}{l l' c cd v:Value}(av:bB μ l l')(aC:bB μ c cd)(he:GP P H t l c=some (v,H')):
 ∃v' br bD,(Instr.makeSlice t l' cd).run P w=.ok v' br/\b9 P B w0 bD H' br/\Step μ bD H H'/\bB bD v v':=by
 unfold GP at he;cases l with
 |int bl l=>
  cases c with
  |int bp c=>
   obtain rfl:=av.qx;obtain rfl:=aC.qx;cases hu:P.underlying t with
   |none=>rw[hu] at he;simp at he
   |some d=>
    rw[hu] at he;cases d with
    |slice elem=>
     simp only at he;cases bE:fy P elem with
     |none=>rw[bE] at he;simp at he
     |some z=>
      rw[bE] at he;cases ia:vh P elem with
      |none=>rw[ia] at he;simp at he
      |some fO=>
       rw[ia] at he;cases hs:ef P elem with
       |none=>rw[hs] at he;simp at he
       |some sz=>
        rw[hs] at he;simp only at he;cases tY:qw c 1000000 with
        |none=>rw[tY] at he;simp at he
        |some aQ=>
         rw[tY] at he;cases c6:qw l 1000000 with
         |none=>rw[c6] at he;simp at he
         |some BX=>
          rw[c6] at he;simp only at he;cases xB:(Nat.ble BX aQ&&Nat.ble fO 1000000&&Nat.beq z.cells.toList.length sz&&z.cells.toList.all eM&&plain z) with
          |false=>rw[xB] at he;simp at he
          |true=>
           rw[xB,b7] at he;simp only[fS] at xB;obtain⟨⟨⟨⟨bb,a7⟩,b8⟩,fl⟩,jb⟩:=xB;have bb:=hV bb;have a7:=hV a7;have b8:=eO b8;obtain⟨rfl,jv⟩:=EE tY;obtain⟨rfl,HA⟩:=EE c6;cases aP:uB H elem (gG z.cells.toList aQ) with
           |none=>rw[aP] at he;simp at he
           |some p=>
            obtain⟨id,H1⟩:=p;rw[aP] at he;simp only[cp,dB] at he;obtain⟨rfl,rfl⟩:=he;have wa:b0 μ z.cells.toList z.cells.toList:=(qG jb).cells;have Bs:b0 μ (gG z.cells.toList aQ) (gG z.cells.toList aQ):=b0.I3 fun v ay=>by
                exact ML (p:=fun v=>bB μ v v) ay (fun u hu=>by
                 obtain⟨i,ao⟩:=kp.1 hu;exact wa.2 i u u ao ao)
            obtain⟨bD,L,a,b,c1,d1,_⟩:=QO h Bs aP;refine⟨.slice (some ⟨w.heap.size,0,none⟩) BX aQ,_,bD,?_,a,b,?_⟩
            ·obtain⟨i,ao,rfl⟩:=Nk ia
             have xV:i.zero=some z:=by simpa[fy,ao] using bE
             have sU:i.size=sz:=by simpa[ef,ao] using hs
             have hmul:i.bytes*aQ<=1000000*1000000:=SR a7 jv;have lk:=MM z.cells.toList aQ;have iB:=run_make (P:=P) w t elem i z hu ao xV bl bp (BX:Int) (aQ:Int) (by omega) (by omega) (by
                 have:(i.bytes:Int)*(aQ:Int)=((i.bytes*aQ:Nat):Int):=by simp
                 rw[this];omega) (by omega)
             rw[iB];simp only[cx];congr 3
             rw[<-lk];simp[madeCells,sU,<-b8]
            ·rw[<-d1];exact .nU id 0 BX aQ L c1 (by have:(1000000:Nat)<cZ:=by decide
                                                    omega)
    |_=>simp at he
  |_=>simp at he
 |_=>simp at he
end
end
end Go.Cre
namespace Go.Cre
noncomputable section
open Go.RowKit
section
variable {P:Program}{B:Nat->Prop}{w0 w:World}{μ:bY}{H H':aA}
theorem Xt{x dR:Value}{m:Nat}(U:bB μ x dR)(hm:rS x=some m)(w:World):(Builtin.lenOf dR).run P w=.ok m w:=by
 cases x with
 |slice a len cap=>
  simp[rS] at hm;subst hm;cases a with
  |none=>rw[U.uK];simp[Builtin.lenOf]
  |some a=>obtain⟨bV,eh,rfl⟩:=U.Cx;simp[Builtin.lenOf]
 |string s=>rw[U.Jb];simp[rS] at hm;subst hm;rfl
 |_=>simp[rS] at hm
theorem ab2(s:ByteArray)(n:Nat):((s.extract 0 n).data.map fun b=>Value.int .u8 b.toNat)=((s.data.toList.take n).map fun b=>Value.int .u8 b.toNat).toArray:=by
 apply tf
 simp[ByteArray.data_extract]
theorem Kq(h:b9 P B w0 μ H w){x dR:Value}{sz n m:Nat}{l:List Value}(U:bB μ x dR)(hm:rS x=some m)(aP:n<=m)(he:js H sz n x=some l):
 ∃l',b0 μ l l'/\∀gd,(Builtin.firstCells sz n dR).run P {w with drawn:=gd}=.ok l'.toArray {w with drawn:=gd}:=by
 cases x with
 |slice a len cap=>
  simp[rS] at hm;subst hm;cases a with
  |none=>
   rw[U.uK];cases n with
   |zero=>simp[js] at he;subst he;exact⟨[],b0.nil _,fun gd=>by simp[Builtin.firstCells]⟩
   |succ n=>simp[js] at he
  |some a=>
   cases n with
   |zero=>
    obtain⟨bV,eh,rfl⟩:=U.Cx;simp[js] at he;subst he;exact⟨[],b0.nil _,fun gd=>by simp[Builtin.firstCells,loadCells,loadCellsFrom]⟩
   |succ n=>
    obtain⟨id,off,L,gf,eh,rfl,bS,rfl,ar,_⟩:=U.yl (.inr (.inl (by omega)));simp only[js] at he;rw[ar (by omega)];cases xN:H.mem.get id with
    |none=>rw[xN] at he;simp at he
    |some b=>
     rw[xN] at he;cases b with
     |row cells elem opn bI eA sh=>
      simp only at he;obtain⟨l',g1,g2,g3⟩:=h.cells bS xN he;refine⟨l',g1,fun gd=>?_⟩;exact run_firstCells_some (P:=P) {w with drawn:=gd} sz (n+1) ⟨L.r,off,none⟩ len eh l' (by rw[g2]) (fun j v a'=>by rw[Addr.rc];exact g3 j v a')
     |_=>simp at he
 |string s=>
  rw[U.Jb];simp only[js] at he;cases aB:takeN n s.data.toList with
  |none=>rw[aB] at he;simp at he
  |some bs=>
   rw[aB] at he;simp only[cp] at he;subst he;obtain⟨aL,bk,cG⟩:=Fh aB;refine⟨bs.map fun b=>.int .u8 b.toNat,b0.I3 fun v ay=>?_,fun gd=>?_⟩
   ·obtain⟨b,_,rfl⟩:=uZ.1 ay;exact .atom _ rfl
   ·simp only[Builtin.firstCells,ab2,aL];rfl
 |_=>simp[rS] at hm
theorem Rq(t hx eS e:TypeId)(hn:TypeDesc)(i:TypeInfo)(z:Value)(aB:P.underlying t=some (.slice e))(jO:P.underlying hx=some hn)(xG:∀k,hn≠.int k)(ao:P.info? e=some i)(bE:i.zero=some z)
 (base:Option Addr)(c' il n:Nat)(x:Value)(Yf news:List Value)(hlen:∀w,(Builtin.lenOf x).run P w=.ok n w)
 (hold:∀gd,(Builtin.firstCells i.size c' (.slice base c' il)).run P {w with drawn:=gd}=.ok Yf.toArray {w with drawn:=gd})
 (qp:∀gd,(Builtin.firstCells i.size n x).run P {w with drawn:=gd}=.ok news.toArray {w with drawn:=gd})
 (aq:il<c'+n) (agS:c'+n<=1000000) (ia:i.bytes<=1000000):
 (Builtin.append_ #[t,hx] eS #[.slice base c' il,x]).run P w=
  .ok (.slice (some ⟨w.heap.size,0,none⟩) (c'+n) (grownCap w (c'+n) il e))
   (w.drew.alloc (.cells (Yf.toArray++(news.toArray++Builtin.zeroCells z.cells (grownCap w (c'+n) il e -(c'+n)))) e)):=by
 have aP:¬(c'+n<=il):=by omega
 have agT:¬(9223372036854775807<((c':Int)+(n:Int))):=by omega
 have hmul:(c'+n)*i.bytes<=1000000*1000000:=SR agS ia
 have agR:¬(281474976710656<Builtin.nextslicecap (c'+n) il*i.bytes):=by
  have:=growslice_fits (bytes:=i.bytes) aq (by omega);omega
 have ar:=hold (w.drawn+1);have hw:=qp (w.drawn+1);have za:({w with drawn:=w.drawn+1}:World)=w.drew:=rfl;rw[za] at ar hw;simp[Builtin.append_,run_underlying aB,run_underlying jO,sizeOf,typeInfo,zeroValue,ao,bE,hlen,aP,agT,agR,Question.forced,hw,ar,newRow,grownCap]
theorem Ma(t hx eS e:TypeId)(hn:TypeDesc)(i:TypeInfo)(aB:P.underlying t=some (.slice e))(jO:P.underlying hx=some hn)(xG:∀k,hn≠.int k)(ao:P.info? e=some i)
 (base:Option Addr)(c' il n:Nat)(x:Value)(news:List Value)(br:World)(hlen:∀w,(Builtin.lenOf x).run P w=.ok n w)
 (qp:(Builtin.firstCells i.size n x).run P w=.ok news.toArray w)(aq:c'+n<=il)
 (dw:∀a,base=some a->(storeCells (a.add (c'*i.size)) news).run P w=.ok () br)(fB:base=none->br=w):
 (Builtin.append_ #[t,hx] eS #[.slice base c' il,x]).run P w=.ok (.slice base (c'+n) il) br:=by
 cases base with
 |none=>
  rw[fB rfl];simp[Builtin.append_,run_underlying aB,run_underlying jO,sizeOf,typeInfo,ao,hlen,aq,qp]
 |some a=>
  have:=dw a rfl;simp[Builtin.append_,run_underlying aB,run_underlying jO,sizeOf,typeInfo,ao,hlen,aq,qp,this]
end
end
end Go.Cre

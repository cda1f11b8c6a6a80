/- A part of the proof of ResumeBack. -/
import Derived.Test.YtiemfjdacfioeaaGreatDoorCaf
import Derived.Laws.BytesString
import Derived.Laws.BytesArg
import Derived.Lib.UnsafeStr
import Derived.Laws.IdiomStrings
set_option linter.unusedVariables false
set_option linter.unusedSimpArgs false
namespace Go.Cre
noncomputable section
open Go.RowKit
section
variable {P:Program}{B:Nat->Prop}{w0 w:World}{μ:b1}{H H':aB}
theorem aeG{x dT v:Value}{xt asserted:TypeId}{ok:Bool}(U:bF μ x dT)(he:Gy P x asserted ok=some v)(w:World):
 ∃v',(Instr.typeAssert dT xt asserted ok).run P w=.ok v' w/\bF μ v v':=by
 unfold Gy at he;simp only at he
 have ON:∀v,(bif ok then(match fw P asserted with|some z=>bif plain z then some (Value.tuple #[z,.bool false]) else none|none=>none) else none)=some v->
  ok=true/\∃z,fw P asserted=some z/\plain z=true/\v=.tuple #[z,.bool false]:=by
  intro v az;cases ok with
  |false=>simp at az
  |true=>
   simp only[cb] at az;cases bN:fw P asserted with
   |none=>rw[bN] at az;simp at az
   |some z=>
    rw[bN] at az;simp only at az;cases aw:plain z with
    |false=>rw[aw] at az;simp at az
    |true=>rw[aw] at az;simp at az;exact⟨rfl,z,rfl,aw,az.symm⟩
 have HA:∀z,plain z=true->bF μ (.tuple #[z,.bool false]) (.tuple #[z,.bool false]):=fun z bN=>bF.Rq (b4.cons (qD bN) (b4.cons (.atom _ rfl) (b4.nil _)));have Wd:∀y iM,bF μ y iM->bF μ (bif ok then .tuple #[y,.bool true] else y) (if ok then .tuple #[iM,.bool true] else iM):=fun y iM ai=>by
  cases ok with
  |true=>exact bF.Rq (b4.cons ai (b4.cons (.atom _ rfl) (b4.nil _)))
  |false=>exact ai
 cases hu:P.underlying asserted with
 |none=>rw[hu] at he;simp at he
 |some d=>
  rw[hu] at he;cases x with
  |nilIface=>
   rw[U.Ij];have az:(bif ok then(match fw P asserted with|some z=>bif plain z then some (Value.tuple #[z,.bool false]) else none|none=>none) else none)=some v:=by
    cases d<;>exact he
   obtain⟨rfl,z,bN,aw,rfl⟩:=ON v az;refine⟨_,?_,HA z aw⟩;cases d<;>simp[Instr.typeAssert,eY hu,yh bN]
  |iface t y=>
   obtain⟨iM,rfl,ai⟩:=U.xJ;by_cases ao:∃want,d=.interface want
   ·obtain⟨want,rfl⟩:=ao;simp only at he;cases tZ:P.info? t with
    |none=>rw[tZ] at he;simp at he
    |some i=>
     rw[tZ] at he;simp only at he;cases xy:Instr.missingMethod want i.methods with
     |none=>
      rw[xy] at he;simp only[cp] at he;subst he;refine⟨_,?_,Wd _ _ (.iface t y iM ai)⟩;simp[Instr.typeAssert,eY hu,typeInfo,tZ,xy]
     |some Ik=>
      rw[xy] at he;obtain⟨rfl,z,bN,aw,rfl⟩:=ON v he;refine⟨_,?_,HA z aw⟩;simp[Instr.typeAssert,eY hu,typeInfo,tZ,xy,yh bN]
   ·have oP:(bif Nat.beq t asserted then some (bif ok then .tuple #[y,.bool true] else y) else(bif ok then(match fw P asserted with|some z=>bif plain z then some (Value.tuple #[z,.bool false]) else none|none=>none) else none))=some v:=by
     cases d<;>first|exact he|exact absurd ⟨_,rfl⟩ ao
    cases au:Nat.beq t asserted with
    |true=>
     rw[au,cb] at oP;simp only[cp] at oP;subst oP;have:=eN au;subst this;refine⟨_,?_,Wd _ _ ai⟩;cases d<;>first|exact absurd ⟨_,rfl⟩ ao|simp[Instr.typeAssert,eY hu]
    |false=>
     rw[au,dZ] at oP;obtain⟨rfl,z,bN,aw,rfl⟩:=ON v oP;have cc:t≠asserted:=fun e=>by subst e;simp at au
     refine⟨_,?_,HA z aw⟩;cases d<;>first|exact absurd ⟨_,rfl⟩ ao|simp[Instr.typeAssert,eY hu,cc,yh bN]
  |_=>cases d<;>simp at he
theorem aek{t:TypeId}{x dT y iM:Value}{r:Bool}(U:bF μ x dT)(ai:bF μ y iM)(he:tA P t x y=some r)(d:Nat)(w:World):(Op.equalIn (d+1) t dT iM).run P w=.ok r w:=by
 unfold tA at he;cases hu:P.underlying t with
 |none=>rw[hu] at he;simp at he
 |some rV=>
  rw[hu] at he;cases rV with
  |pointer elem=>
   cases x with
   |pointer a=>
    cases y with
    |pointer b=>
     cases a with
     |none=>
      rw[U.EM];cases b with
      |none=>rw[ai.EM];simp at he;subst he;simp[Op.equalIn,eY hu]
      |some b=>obtain⟨id,off,L,rfl,bT,rfl⟩:=ai.o6;simp at he;subst he;simp[Op.equalIn,eY hu]
     |some a=>
      obtain⟨id,off,L,rfl,bT,rfl⟩:=U.o6;cases b with
      |none=>rw[ai.EM];simp at he;subst he;simp[Op.equalIn,eY hu]
      |some b=>
       obtain⟨l4,gb,bQ,rfl,oN,rfl⟩:=ai.o6;simp only at he;cases af:ej P elem with
       |none=>rw[af] at he;simp at he
       |some n=>
        rw[af] at he;cases n with
        |zero=>simp at he
        |succ n=>
         simp only at he;cases au:Nat.beq id l4 with
         |false=>rw[au] at he;simp at he
         |true=>
          rw[au,cb] at he;have:=eN au;subst this;rw[bT] at oN;injection oN with oN;subst oN
          simp only[cp] at he;subst he;have vF:(({block:=id,off:=off}:Addr)=={block:=id,off:=gb})=(({block:=L.r,off:=off}:Addr)=={block:=L.r,off:=gb}):=by
           rw[o8];simp
          rw[vF];simp[Op.equalIn,eY hu,kC af,sameAddr]
    |_=>simp at he
   |_=>simp at he
  |slice elem=>
   cases x with
   |slice a l c=>
    cases y with
    |slice b l' ch=>
     cases a with
     |none=>
      rw[U.uI];cases b with
      |none=>rw[ai.uI];simp at he;subst he;simp[Op.equalIn,eY hu]
      |some b=>obtain⟨_,_,rfl⟩:=ai.Cl;simp at he;subst he;simp[Op.equalIn,eY hu]
     |some a=>
      obtain⟨_,_,rfl⟩:=U.Cl;cases b with
      |none=>rw[ai.uI];simp at he;subst he;simp[Op.equalIn,eY hu]
      |some b=>simp at he
    |_=>simp at he
   |_=>simp at he
  |map k e=>
   cases x with
   |map a=>
    cases y with
    |map b=>
     cases a with
     |none=>
      rw[U.H8];cases b with
      |none=>rw[ai.H8];simp at he;subst he;simp[Op.equalIn,eY hu]
      |some b=>obtain⟨_,_,rfl⟩:=ai.H7;simp at he;subst he;simp[Op.equalIn,eY hu]
     |some a=>
      obtain⟨_,_,rfl⟩:=U.H7;cases b with
      |none=>rw[ai.H8];simp at he;subst he;simp[Op.equalIn,eY hu]
      |some b=>simp at he
    |_=>simp at he
   |_=>simp at he
  |func eG nk v=>
   cases x with
   |nilFunc=>
    rw[U.Lk];cases y with
    |func fn a b=>
     simp at he;subst he;cases ai with
     |atom _ q=>simp[isAtom] at q
     |func=>simp[Op.equalIn,eY hu]
     |yield=>simp[Op.equalIn,eY hu]
    |_=>simp at he
   |func fn a b=>
    cases y with
    |nilFunc=>
     rw[ai.Lk];simp at he;subst he;cases U with
     |atom _ q=>simp[isAtom] at q
     |func=>simp[Op.equalIn,eY hu]
     |yield=>simp[Op.equalIn,eY hu]
    |_=>simp at he
   |_=>simp at he
  |interface Qm=>
   cases x with
   |nilIface=>
    rw[U.Ij];cases y with
    |iface t y=>obtain⟨_,rfl,_⟩:=ai.xJ;simp at he;subst he;simp[Op.equalIn,eY hu]
    |_=>simp at he
   |iface t x=>
    obtain⟨_,rfl,_⟩:=U.xJ;cases y with
    |nilIface=>rw[ai.Ij];simp at he;subst he;simp[Op.equalIn,eY hu]
    |_=>simp at he
   |_=>simp at he
  |_=>simp at he
theorem Y5{r:Nat}{c:Array Value}{e:TypeId}{f:Nat×Nat}(h:w.heap[r]?=some (.cells c e f)):(shape r).run P w=.ok (some (e,c.size)) w:=by
 simp[shape,Sem.run,World.shape?,h]
theorem Z1{r:Nat}{c:Array Value}{e:TypeId}{f:Nat×Nat}(h:w.heap[r]?=some (.cells c e f)):(viewAt r).run P w=.ok none w:=by
 simp[viewAt,Y5 h]
theorem acd{r:Nat}{c:Array Value}{e:TypeId}{f:Nat×Nat}(h:w.heap[r]?=some (.cells c e f)):(cellsIn r).run P w=.ok (some c.size) w:=by
 simp[cellsIn,Y5 h]
theorem aeg(h:ca P B w0 μ H w){src dst:TypeId}{x dT v:Value}(U:bF μ x dT)(he:AP P H src dst x=some v):
 ∃v',(convert src dst dT).run P w=.ok v' w/\bF μ v v':=by
 unfold AP at he;cases hu:P.underlying src with
 |none=>rw[hu] at he;simp at he
 |some ds=>
  rw[hu] at he;cases aZ:P.underlying dst with
  |none=>rw[aZ] at he;simp at he
  |some AN=>
   rw[aZ] at he;cases ds with
   |pointer t=>
    cases AN with
    |unsafePointer=>
     cases x with
     |pointer a=>
      cases a with
      |none=>simp at he
      |some a=>
       obtain⟨id,off,L,rfl,bT,rfl⟩:=U.o6;simp only at he;cases af:ej P t with
       |none=>rw[af] at he;simp at he
       |some n=>
        rw[af] at he;cases n with
        |zero=>simp at he
        |succ n=>
         cases hm:H.mem.get id with
         |none=>rw[hm] at he;simp at he
         |some b=>
          rw[hm] at he;cases b with
          |row cells el opn bM eB sh=>
           simp only at he;cases au:Nat.blt off cells.length with
           |false=>rw[au] at he;simp at he
           |true=>
            rw[au,cb] at he;simp only[cp] at he;subst he;have au:off<cells.length:=h3 au;obtain⟨c,f,g1,g2,g3,g4,g5,g6,g7⟩:=h.row bT hm;have c4:¬(c.size<=off):=by omega
            refine⟨_,?_,U⟩;simp[convert,eY hu,eY aZ,Conv.unsafePointer,Conv.seenAt,Z1 g1,acd g1,c4,kC af]
          |_=>simp at he
     |_=>simp at he
    |_=>simp at he
   |unsafePointer=>
    cases AN with
    |pointer u=>
     cases x with
     |pointer a=>
      cases a with
      |none=>simp at he
      |some a=>
       obtain⟨id,off,L,rfl,bT,rfl⟩:=U.o6;simp only at he;cases af:ej P u with
       |none=>rw[af] at he;simp at he
       |some n=>
        rw[af] at he;cases n with
        |zero=>simp at he
        |succ n=>
         cases hm:H.mem.get id with
         |none=>rw[hm] at he;simp at he
         |some b=>
          rw[hm] at he;cases b with
          |row cells el opn bM eB sh=>
           cases opn with
           |true=>simp at he
           |false=>
            simp only at he;cases au:liesAt P P.depth el (cells.length / P.cellsOf el) off u 1 with
            |false=>rw[au] at he;simp at he
            |true=>
             rw[au,cb] at he;simp only[cp] at he;subst he;obtain⟨c,f,g1,g2,g3,g4,g5,g6,g7⟩:=h.row bT hm;have k8:c.size=cells.length:=by rw[g2,g5 rfl]
             have PI:w.shape? L.r=some (el,c.size):=by simp[World.shape?,g1]
             refine⟨_,?_,U⟩;simp[convert,eY hu,eY aZ,Conv.unsafePointer,Conv.seenAt,Z1 g1,kC af,variablesAt,PI,k8,au]
          |_=>simp at he
     |_=>simp at he
    |_=>simp at he
   |_=>cases AN<;>simp at he
end
end
end Go.Cre
namespace Go.Cre
noncomputable section
open Go.RowKit
section
variable {P:Program}{B:Nat->Prop}{w0 w:World}{μ:b1}{H H':aB}
theorem Tk:∀{l:List Value} {bs:List UInt8},oz l=some bs->l=bs.map (fun b=>Value.int .u8 (b.toNat:Int)):=by
 intro l;induction l with
 |nil=>intro bs h;simp[oz] at h;subst h;rfl
 |cons v l aK=>
  intro bs h;cases v with
  |int k n=>
   cases k with
   |u8=>
    cases n with
    |ofNat n=>
     simp only[oz] at h;cases c4:Nat.blt n 256 with
     |false=>rw[c4] at h;simp at h
     |true=>
      rw[c4,cb] at h;have c4:n<256:=h3 c4;cases au:oz l with
      |none=>rw[au] at h;simp at h
      |some r=>
       rw[au] at h;simp only[cp] at h;subst h;rw[nR,<-aK au];congr 2
       have:(UInt8.ofNat n).toNat=n:=by simp;omega
       rw[this];rfl
    |negSucc n=>simp[oz] at h
   |_=>simp[oz] at h
  |_=>simp[oz] at h
theorem b4.bytes{bs:List UInt8}{l':List Value}(h:b4 μ (bs.map fun b=>Value.int .u8 (b.toNat:Int)) l'):l'=bs.map fun b=>Value.int .u8 (b.toNat:Int):=by
 induction bs generalizing l' with
 |nil=>exact h.lf
 |cons b bs aK=>
  obtain⟨v',t,rfl,aa,ae⟩:=h.jC;rw[aa.qu,aK ae];rfl
theorem ajU{v:Value}(h:isByte v=true):∃n,v=.int .u8 (.ofNat n)/\Nat.blt n 256=true:=by
 cases v with
 |int k i=>
  cases k with
  |u8=>cases i with
   |ofNat n=>exact⟨n,rfl,h⟩
   |negSucc n=>cases h
  |_=>cases h
 |_=>cases h
theorem abF:∀(c r:List Value),(∀v∈c,isByte v=true)->oz c=some (Zn c.length (c++r)):=by
 intro c;induction c with
 |nil=>intro r _;cases r<;>rfl
 |cons v c aK=>
  intro r h;obtain⟨n,rfl,aP⟩:=ajU (h v (by simp));have ao:=aK r fun u hu=>h u (by simp[hu]);simp only[oz,aP,cb,ao];rfl
theorem ade(k:Nat)(l:List Value):wW (k+1) l=Option.rec (motive:=fun _=>Option (List Value)) none (wW k) (wW k l):=rfl
theorem adb:∀{k:Nat} {l r:List Value},wW k l=some r->∃c,l=c++r/\c.length=2 ^ k/\∀v∈c,isByte v=true:=by
 intro k;induction k with
 |zero=>
  intro l r h;cases l with
  |nil=>cases h
  |cons v l=>
   have h:Bool.rec (motive:=fun _=>Option (List Value)) none (some l) (isByte v)=some r:=h;cases au:isByte v with
   |false=>rw[au] at h;cases h
   |true=>rw[au] at h;injection h with h;subst h;exact⟨[v],rfl,rfl,fun u hu=>by simp at hu;rw[hu];exact au⟩
 |succ k aK=>
  intro l r h;rw[ade] at h;cases aa:wW k l with
  |none=>rw[aa] at h;cases h
  |some m=>
   rw[aa] at h;have h:wW k m=some r:=h;obtain⟨bt,rfl,bn,cP⟩:=aK aa;obtain⟨bw,rfl,cv,im⟩:=aK h;refine⟨bt++bw,by simp,by simp[bn,cv,Mw];omega,fun v az=>?_⟩;rcases kX.1 az with q|q
   ·exact cP v q
   ·exact im v q
theorem ada(k n:Nat)(l:List Value):AL (k+1) n l=Bool.rec (motive:=fun _=>Bool) (Option.rec (motive:=fun _=>Bool) false (fun r=>AL k (Nat.sub n (Nat.pow 2 k)) r) (wW k l)) (AL k n l) (Nat.blt n (Nat.pow 2 k)):=rfl
theorem ac':∀{k n:Nat} {l:List Value},AL k n l=true->∃c r,l=c++r/\c.length=n/\∀v∈c,isByte v=true:=by
 intro k;induction k with
 |zero=>
  intro n l h;have h:Nat.beq n 0=true:=h;exact⟨[],l,rfl,(eN h).symm,fun v az=>by cases az⟩
 |succ k aK=>
  intro n l h;rw[ada] at h;cases au:Nat.blt n (Nat.pow 2 k) with
  |true=>rw[au] at h;exact aK h
  |false=>
   rw[au] at h;have lY:2 ^ k<=n:=by
    rcases kY n (2 ^ k) with q|q
    ·have:Nat.blt n (Nat.pow 2 k)=true:=lr q;rw[au] at this;cases this
    ·exact q
   cases aa:wW k l with
   |none=>rw[aa] at h;cases h
   |some m=>
    rw[aa] at h;have h:AL k (n -2 ^ k) m=true:=h;obtain⟨bt,rfl,bn,cP⟩:=adb aa;obtain⟨bw,r,rfl,cv,im⟩:=aK h;have cv:bw.length=n -2 ^ k:=cv;refine⟨bt++bw,r,by simp,by rw[dv,bn,cv];omega,fun v az=>?_⟩;rcases kX.1 az with q|q
    ·exact cP v q
    ·exact im v q
theorem aod{α:Type}:∀{c:List α} (r:List α),takeN c.length (c++r)=some c:=by
 intro c;induction c with
 |nil=>intro r;rfl
 |cons a c aK=>intro r;simp only[iQ,Sd,takeN];rw[aK r]
theorem aeE{src dst:TypeId}{x v:Value}(he:ND P H src dst x=some v):Dz P H src dst x=some v:=by
 unfold ND at he;unfold Dz;cases aa:P.underlying src with
 |none=>rw[aa] at he;cases he
 |some hi=>
  rw[aa] at he;cases ae:P.underlying dst with
  |none=>rw[ae] at he;cases hi<;>cases he
  |some rV=>
   rw[ae] at he;cases hi with
   |slice e=>
    cases rV with
    |string=>
     cases x with
     |slice b len cap=>
      cases b with
      |none=>cases he
      |some a=>
       simp only at he ⊢;cases bd:P.underlying e with
       |none=>rw[bd] at he;cases he
       |some Zp=>
        rw[bd] at he;cases a6:a.spot with
        |some s=>rw[a6] at he;cases Zp<;>first|(cases he;done)|(rename_i k;cases k<;>cases he)
        |none=>
         rw[a6] at he;cases Zp with
         |int k=>
          cases k with
          |u8=>
           cases b9:H.mem.get a.block with
           |none=>rw[b9] at he;cases he
           |some yL=>
            rw[b9] at he;cases yL with
            |row cells el opn bM eB sh=>
             simp only at he ⊢;unfold Zr at he;cases aZ:AL 21 len (oG a.off cells) with
             |false=>rw[aZ] at he;cases he
             |true=>
              rw[aZ,cb] at he;obtain⟨c,r,aN,bn,cP⟩:=ac' aZ;have aC:jM H 1 len (.slice (some a) len 0)=some c:=by
               unfold jM;simp only[a6];cases len with
               |zero=>simp only;rw[s9.1 bn]
               |succ m=>
                simp only[b9,At];rw[aN,<-bn];exact aod r
              simp only[aC,abF c r cP,zF,a6,lK,dZ];rw[bn,<-aN];exact he
            |_=>cases he
          |_=>cases he
         |_=>cases he
     |_=>cases he
    |_=>cases x<;>first|(cases he;done)|(rename_i b _ _;cases b<;>cases he)
   |_=>cases he
theorem aeD{src dst:TypeId}{x v:Value}(he:NC P H src dst x=some v):Dz P H src dst x=some v:=by
 unfold NC at he;cases av:Qf x with
 |false=>rw[av] at he;exact he
 |true=>rw[av] at he;exact aeE he
theorem aeF(h:ca P B w0 μ H w){src dst:TypeId}{x dT v:Value}(U:bF μ x dT)(he:Dz P H src dst x=some v):
 ∃v',(convert src dst dT).run P w=.ok v' w/\bF μ v v':=by
 unfold Dz at he;cases hu:P.underlying src with
 |none=>rw[hu] at he;simp at he
 |some ds=>
  rw[hu] at he;cases aZ:P.underlying dst with
  |none=>rw[aZ] at he;simp at he
  |some AN=>
   rw[aZ] at he;cases ds with
   |slice e=>
    cases AN with
    |string=>
     cases x with
     |slice a len cap=>
      cases a with
      |none=>
       rw[U.uI];simp only at he;cases oQ:P.underlying e with
       |none=>rw[oQ] at he;simp at he
       |some Nn=>
        rw[oQ] at he;cases Nn with
        |int k=>
         cases k with
         |u8=>
          simp only[cp] at he;subst he;refine⟨.string .empty,?_,.atom _ rfl⟩;rw[run_convert_bytes_string w src dst e _ _ _ hu oQ aZ];simp[Conv.bytesToString]
         |_=>simp at he
        |_=>simp at he
      |some a=>
       have lb:a.spot=none:=by
        cases q:a.spot with
        |none=>rfl
        |some _=>simp[zF,q] at he
       obtain⟨id,off,L,gb,eg,rfl,bT,rfl,ar,_,_⟩:=U.x4 (.inl lb);simp only[zF,lK,dZ] at he;cases oQ:P.underlying e with
       |none=>rw[oQ] at he;simp at he
       |some Nn=>
        rw[oQ] at he;cases Nn with
        |int k=>
         cases k with
         |u8=>
          simp only at he;cases aC:jM H 1 len (.slice (some ⟨id,off,none⟩) len 0) with
          |none=>rw[aC] at he;simp at he
          |some cells=>
           rw[aC] at he;simp only at he;cases au:oz cells with
           |none=>rw[au] at he;simp at he
           |some bs=>
            rw[au] at he;simp only[cp] at he;subst he;have Ku:=Tk au;have aje:bF μ (.slice (some ⟨id,off,none⟩) len 0) (.slice (some ⟨L.r,off,none⟩) len 0):=.nP id off len 0 L bT (by decide);obtain⟨l',g1,g2⟩:=J5 h aje (m:=len) rfl (cZ _) aC;rw[Ku] at g1;have c6:=g1.bytes;subst c6;have D1:(loadCells ⟨L.r,gb,none⟩ len).run P w=.ok ((bs.map fun b=>(b.toNat:Int)).map (Value.int .u8)).toArray w:=by
             by_cases bD:0<len
             ·rw[ar bD];have:=g2 w.drawn;simp only[Builtin.firstCells,At] at this;rw[this];simp
             ·have j8:len=0:=by omega
              subst j8;have tT:bs.map (fun b=>Value.int .u8 (b.toNat:Int))=[]:=by
               rw[<-Ku];simp[jM] at aC;exact aC
              have:bs=[]:=by simpa using tT
              subst this;simp[loadCells,loadCellsFrom]
            refine⟨.string ⟨bs.toArray⟩,?_,.atom _ rfl⟩;rw[run_convert_bytes_string w src dst e _ _ _ hu oQ aZ,run_bytesToString w ⟨L.r,gb,none⟩ len eg _ D1,foldl_push_bytes];congr 2
            have hid:((fun n:Int=>UInt8.ofNat n.toNat) ∘ fun b:UInt8=>(b.toNat:Int))=_root_.id:=by funext b;simp
            apply ByteArray.ext
            simp[hid]
         |_=>simp at he
        |_=>simp at he
     |_=>simp at he
    |_=>simp at he
   |_=>cases AN<;>simp at he
theorem ae6{r n:Nat}{c:Array Value}{e:TypeId}{f:Nat×Nat}(h:w.heap[r]?=some (.cells c e f))(aP:n≠0):
 w.freeze ⟨r,0,none⟩ n={w with heap:=w.heap.setIfInBounds r (.cells c e (if f.1==f.2 then(0,0+n) else(min f.1 0,max f.2 (0+n))))}:=by
 have ay:r<w.heap.size:=by
  rcases kY r w.heap.size with dE|dE
  ·exact dE
  ·rw[s3 dE] at h;cases h
 unfold World.freeze;rw[ap aP];congr 1
 apply Fi
 intro i;rw[aao,Am];by_cases ao:r=i
 ·subst ao;rw[aE rfl,aE rfl,h,aE ay];rfl
 ·simp[ao]
theorem aeH(h:ca P B w0 μ H w){o5 it eD:TypeId}{p hO n nL v:Value}(aw:bF μ p hO)(aP:bF μ n nL)(he:Gz P H o5 p n=some (v,H')):
 ∃v' bu,(Builtin.unsafeString_ #[o5,it] eD #[hO,nL]).run P w=.ok v' bu/\ca P B w0 μ H' bu/\Step μ μ H H'/\bF μ v v':=by
 unfold Gz at he;cases p with
 |pointer a=>
  cases n with
  |int k i=>
   cases k with
   |i64=>
    obtain rfl:=aP.qu;cases i with
    |ofNat m=>
     cases m with
     |zero=>
      cases a with
      |none=>
       rw[aw.EM];simp only[cp,dC] at he;obtain⟨rfl,rfl⟩:=he;exact⟨_,w,Lib.run_unsafeString_none w o5 it eD none,h,Step.refl _ _,.atom _ rfl⟩
      |some a=>
       obtain⟨id,off,L,rfl,bT,rfl⟩:=aw.o6;simp only[cp,dC] at he;obtain⟨rfl,rfl⟩:=he;exact⟨_,w,Lib.run_unsafeString_none w o5 it eD _,h,Step.refl _ _,.atom _ rfl⟩
     |succ m=>
      cases a with
      |none=>exact absurd (show none=some (v,H') from he) (by simp)
      |some a=>
       obtain⟨id,off,L,rfl,bT,rfl⟩:=aw.o6;simp only at he;cases hu:P.underlying o5 with
       |none=>rw[hu] at he;simp at he
       |some d=>
        rw[hu] at he;cases d with
        |pointer u=>
         cases hm:H.mem.get id with
         |none=>rw[hm] at he;simp at he
         |some b=>
          rw[hm] at he;cases b with
          |row cells e opn bM eB sh=>
           simp only at he;cases aH:(Nat.beq e u&&Nat.beq (P.cellsOf e) 1&&Nat.ble (m+1) 1000000&&!Nat.blt id H.bZ&&Nat.beq off 0&&!sh) with
           |false=>rw[aH] at he;simp at he
           |true=>
            rw[aH] at he;simp only[lK,dZ] at he;simp only[fU,qL] at aH;obtain⟨⟨⟨⟨⟨bd,a6⟩,b9⟩,fN⟩,kd⟩,qE⟩:=aH;have bd:=eN bd;subst bd;have a6:=eN a6;have b9:=h3 b9;have fN:=Tb fN;have kd:=eN kd;subst kd;cases aD:takeN (m+1) cells with
            |none=>rw[aD] at he;simp at he
            |some l=>
             rw[aD] at he;simp only at he;cases au:oz l with
             |none=>rw[au] at he;simp at he
             |some bs=>
              rw[au] at he;simp only at he;cases PR:H.upd id (.row cells e opn bM (bif sh then sl else Nat.max eB (m+1)) sh) with
              |none=>rw[PR] at he;simp at he
              |some H0=>
               rw[PR] at he;simp only at he;cases O5:(bif opn then zx H0 id bM else some H0) with
               |none=>rw[O5] at he;simp at he
               |some H1=>
               rw[O5] at he;simp only[cp,dC] at he;obtain⟨rfl,rfl⟩:=he;obtain⟨c,f,g1,g2,g3,g4,g5,g6,g7⟩:=h.row bT hm;obtain⟨t1,t2,t3⟩:=E4 aD;have hle:=Tk au;have su:bs.length=m+1:=by have:=cC List.length hle;simp at this;omega
               have c6:b4 μ l ((c.toList.take cells.length).take (m+1)):=by rw[t1];exact g6.take (m+1)
               rw[hle] at c6;have ag3:=c6.bytes;have PI:w.shape? L.r=some (e,c.size):=by simp[World.shape?,g1]
               have iv:=Lib.run_unsafeString_row (P:=P) w o5 it eD e hu a6 L.r c.size PI bs (by intro q;rw[q] at su;simp at su) (by omega) (by omega) (fun j x ba=>by
                rw[Addr.q3,ls,cell_of_row g1];have:((c.toList.take cells.length).take (m+1))[j]?=some (Value.int .u8 (x.toNat:Int)):=by rw[ag3,pb,ba];rfl
                rw[kI] at this;split at this
                ·rw[kI] at this;split at this
                 ·simpa using this
                 ·cases this
                ·cases this)
               rw[su] at iv;have lX:=ae6 (n:=m+1) g1 (by omega);rw[lX] at iv;have au:kg P μ L (.row cells e opn bM (bif sh then sl else Nat.max eB (m+1)) sh) (.cells c e (if f.1==f.2 then(0,0+(m+1)) else(min f.1 0,max f.2 (0+(m+1))))):=by
                refine⟨rfl,g2,g3,g4,g5,fun i v v' q dz=>g6.2 i v v' q ?_,?_⟩
                ·have ao:=(dX.1 q).1;rw[kI,aE ao];simpa using dz
                ·cases sh with
                 |true=>cases qE
                 |false=>
                  simp only[dZ];have Ph:m+1<=Nat.max eB (m+1):=Nat.le_max_right _ _;have asy:eB<=Nat.max eB (m+1):=Nat.le_max_left _ _;rcases g7.2 rfl with q|q
                  ·rw[aE (by simpa using q)];exact⟨fun off _ _ ae=>by simp at ae;omega,fun _=>.inr (by simpa using Ph)⟩
                  ·by_cases qf:f.1=f.2
                   ·rw[aE (by simpa using qf)];exact⟨fun off _ _ ae=>by simp at ae;omega,fun _=>.inr (by simpa using Ph)⟩
                   ·rw[ap (by simpa using qf)];have:max f.2 (0+(m+1))<=Nat.max eB (m+1):=Nat.max_le.2 ⟨by omega,by omega⟩;exact⟨fun off _ _ ae=>by simp only at ae;omega,fun _=>.inr this⟩
               obtain⟨cI,ei⟩:=h.aab bT fN hm rfl PR O5 au;exact⟨_,_,iv,cI,ei,.atom _ rfl⟩
          |_=>simp at he
        |_=>simp at he
    |negSucc m=>cases a<;>simp at he
   |_=>cases a<;>simp at he
  |_=>cases a<;>simp at he
 |_=>simp at he
theorem strCells_eq(l:List UInt8):strCells l=l.map fun b=>Value.int .u8 b.toNat:=by
 induction l with
 |nil=>rfl
 |cons b l aK=>show Value.int .u8 (.ofNat b.toNat)::strCells l=_;rw[aK];rfl
theorem aB.akP{H H1:aB}{cells:List Value}{e:TypeId}{sh:Bool}{id:Nat}(aP:H.od cells e sh=some (id,H1)):H1.ak=H.ak+1:=by
 unfold aB.od at aP;cases aC:H.vU with
 |none=>rw[aC] at aP;cases aP
 |some p=>
  obtain⟨f,cN⟩:=p;rw[aC] at aP;have aa:=(aB.qz aP).2.1;have ae:=(aB.Lj aC).2.1;omega
theorem aeB{src dst:TypeId}{s:ByteArray}{v:Value}{H1:aB}(he:w7 P H src dst s=some (v,H1)):H1.ak=H.ak+1:=by
 unfold w7 at he;split at he
 ·split at he
  ·rename_i e _ _ _ _;cases au:Nat.beq (P.cellsOf e) 1 with
   |false=>rw[au] at he;cases he
   |true=>
    rw[au,cb] at he;cases aP:H.od (strCells s.data.toList) e true with
    |none=>rw[aP] at he;cases he
    |some p=>
     obtain⟨id,cN⟩:=p;rw[aP] at he;have he:some (Value.slice (some ⟨id,0,none⟩) s.data.toList.length c9,cN)=some (v,H1):=he;simp only[cp,dC] at he;obtain⟨_,rfl⟩:=he;exact aB.akP aP
  ·cases he
 ·cases he
theorem aeC(h:ca P B w0 μ H w){src dst:TypeId}{s:ByteArray}{v:Value}{H1:aB}(he:w7 P H src dst s=some (v,H1)):
 ∃v' bu bI,(convert src dst (.string s)).run P w=.ok v' bu/\ca P B w0 bI H1 bu/\Step μ bI H H1/\bF bI v v':=by
 unfold w7 at he;split at he
 ·rename_i e aa ae;split at he
  ·rename_i aG;cases au:Nat.beq (P.cellsOf e) 1 with
   |false=>rw[au] at he;cases he
   |true=>
    rw[au,cb] at he;cases aP:H.od (strCells s.data.toList) e true with
    |none=>rw[aP] at he;cases he
    |some p=>
     obtain⟨id,cN⟩:=p;rw[aP] at he;have he:some (Value.slice (some ⟨id,0,none⟩) s.data.toList.length c9,cN)=some (v,H1):=he;simp only[cp,dC] at he;obtain⟨rfl,rfl⟩:=he;have Ku:=eN au;have lY:=grownCap_ge w s.size 0 e;have eU:s.size=s.data.toList.length:=by rw[Array.length_toList];rfl
     have gj:(bytesRow s (grownCap w s.size 0 e)).size=grownCap w s.size 0 e:=by
      unfold bytesRow;have:s.data.size=s.size:=rfl;simp[this];omega
     obtain⟨bo,a2,rfl⟩:=h.drew.Qh (o:=.cells (bytesRow s (grownCap w s.size 0 e)) e ((bytesRow s (grownCap w s.size 0 e)).size,(bytesRow s (grownCap w s.size 0 e)).size+1)) (L:=⟨w.heap.size,grownCap w s.size 0 e,1⟩) aP rfl (fun f=>by
      refine⟨rfl,gj,Ku,?_,(fun q=>by cases q),fun i u ie x y=>?_,⟨fun off ar aa ae=>?_,(fun q=>by cases q)⟩⟩
      ·rw[strCells_eq,mc,<-eU];exact lY
      ·rw[strCells_eq,pb] at x;obtain⟨b,mW,rfl⟩:=aaM.1 x;have ao:i<s.data.size:=by
        have:=(dX.1 mW).1;simpa using this
       unfold bytesRow at y;rw[RR,aE (by simpa using ao)] at y;rw[Array.getElem?_map,<-Array.getElem?_toList,mW] at y;simp only[Fz,cp] at y;subst y;exact .atom _ rfl
      ·rw[gj] at aa;show off<0;have:off<grownCap w s.size 0 e:=ar;omega)
     refine⟨_,_,_,run_bytes_of_string w src dst e s aa ae aG,bo,a2,?_⟩;rw[<-eU];exact .pL H.ak 0 s.size _ ⟨w.heap.size,grownCap w s.size 0 e,1⟩ (b1.kT _ _ _) lY (by simp)
  ·cases he
 ·cases he
end
end
end Go.Cre
namespace Go.Cre
noncomputable section
open Go.RowKit
section
variable {P:Program}{B:Nat->Prop}{w0 w:World}{μ:b1}{H H':aB}{T:bg Value}{n:Nat}{tmps:Array Value}
def dA(tmps:Array Value):Operand->Value
 |.tmp t=>tmps.getD t undef
 |.const v=>v
 |.global g=>.pointer (some ⟨g,0,none⟩)
 |.func f=>.func (.func f) #[] #[]
theorem vX(h:ca P B w0 μ H w)(aD:lu μ T n tmps){x:Operand}{v:Value}(he:bk T H x=some v):bF μ v (dA tmps x):=by
 cases x with
 |tmp t=>exact aD.2 t v he
 |const c=>
  have he:(bif plain c then some c else none)=some v:=he;cases aw:plain c with
  |false=>rw[aw] at he;simp at he
  |true=>rw[aw] at he;simp at he;subst he;exact qD aw
 |global g=>
  have he:QH H g=some v:=he;unfold QH at he;cases aq:Nat.blt g H.bZ with
  |false=>rw[aq] at he;simp at he
  |true=>
   rw[aq,cb] at he;have aq:g<H.bZ:=h3 aq;cases hm:H.mem.get g with
   |none=>rw[hm] at he;simp at he
   |some b=>
    rw[hm] at he;cases b with
    |row c e o f z s=>
     simp only[cp] at he;subst he;obtain⟨L,bT⟩:=h.tE g c e o f z s aq hm;have:=bF.ptr (μ:=μ) g 0 L bT;rw[h.own g L bT aq] at this;exact this
    |_=>simp at he
 |func f=>
  have he:some (Value.func (.func f) #[] #[])=some v:=he;injection he with he;subst he
  exact .func _ _ _ _ _ rfl rfl rfl (fun i v v' q=>by simp at q) (fun i v v' q=>by simp at q)
theorem Iy(h:ca P B w0 μ H w)(aD:lu μ T n tmps):∀{l:List Operand} {vs:List Value},ez T H l=some vs->b4 μ vs (l.map (dA tmps)):=by
 intro l;induction l with
 |nil=>intro vs he;simp[ez] at he;subst he;exact b4.nil _
 |cons x l aK=>
  intro vs he;simp only[ez] at he;cases U:bk T H x with
  |none=>rw[U] at he;simp at he
  |some v=>
   rw[U] at he;cases av:ez T H l with
   |none=>rw[av] at he;simp at he
   |some r=>rw[av] at he;simp at he;subst he;exact b4.cons (vX h aD U) (aK av)
theorem alG:∀{l:List Operand} {vs:List Value},ez T H l=some vs->∀x∈l,∃v,bk T H x=some v/\v∈vs:=by
 intro l;induction l with
 |nil=>intro vs he x U;simp at U
 |cons y l aK=>
  intro vs he x U;simp only[ez] at he;cases ai:bk T H y with
  |none=>rw[ai] at he;simp at he
  |some v=>
   rw[ai] at he;cases av:ez T H l with
   |none=>rw[av] at he;simp at he
   |some r=>
    rw[av] at he;simp at he;subst he;rcases fg.1 U with rfl|U
    ·exact⟨v,ai,by simp⟩
    ·obtain⟨u,a,b⟩:=aK av x U;exact⟨u,a,by simp[b]⟩
theorem XZ(h:ca P B w0 μ H w)(aD:lu μ T n tmps):∀{l:List (Nat×Operand)} {eG:List (Nat×Value)},lj T H l=some eG->wv μ eG (l.map fun(i,x)=>(i,dA tmps x)):=by
 intro l;induction l with
 |nil=>intro vs he;simp[lj] at he;subst he;exact⟨rfl,fun i p hO q=>by simp at q⟩
 |cons x l aK=>
  intro vs he;obtain⟨i,x⟩:=x;simp only[lj] at he;cases U:bk T H x with
  |none=>rw[U] at he;simp at he
  |some v=>
   rw[U] at he;cases av:lj T H l with
   |none=>rw[av] at he;simp at he
   |some r=>
    rw[av] at he;simp at he;subst he;have:=aK av;refine⟨by simp[this.1],fun j p hO q dz=>?_⟩;cases j with
    |zero=>simp at q dz;subst q;subst dz;exact⟨rfl,vX h aD U⟩
    |succ j=>exact this.2 j p hO (by simpa using q) (by simpa using dz)
def nT(P:Program)(B:Nat->Prop)(w0:World)(call:eH)(aR:gR)(μ:b1)(H:aB)(w:World)(s:Sem Next):cM->Prop
 |.val v H'=>(∃v' bu bI,s.run P w=.ok (.value v') bu/\ca P B w0 bI H' bu/\Step μ bI H H'/\bF bI v v')\/
  (∃f args cz,s.run P w=(callFunc f cz.toArray).run P w/\b4 μ args cz/\call f args H=some (.returned v,H'))\/
  (∃l L args cz,μ l=some L/\s.run P w=(Instr.yield L.r cz.toArray).run P w/\b4 μ args cz/\aR l args H=some (.returned v,H'))
 |.skip H'=>∃bu,s.run P w=.ok .skip bu/\ca P B w0 μ H' bu/\Step μ μ H H'
 |.iT d=>∃fv cap eg args cz,d={target:=.fn fv cap,args:=args.toArray}/\s.run P w=.ok (.defer {target:=.fn fv eg,args:=cz.toArray}) w/\xT fv=true/\b4 μ cap.toList eg.toList/\b4 μ args cz
 |.jE chain H'=>(∃v v',chain=[{v:=v,recovered:=false}]/\H'=H/\s.run P w=.halt (.panic v') w/\bF μ v v')\/
  (∃f args cz,s.run P w=(callFunc f cz.toArray).run P w/\b4 μ args cz/\call f args H=some (.panicked chain,H'))
 |.Cd=>s.run P w=.ok .recover w
variable {call:eH}{aR:gR}{o:Oper}{S:bi}
theorem pF{s:Sem Value}{x:Option Value}{r:cM}(h:ca P B w0 μ H w)(af:∀v,x=some v->∃v',s.run P w=.ok v' w/\bF μ v v')(he:gp x H=some r):
 nT P B w0 call aR μ H w (do pure (.value (<-s))) r:=by
 cases x with
 |none=>cases he
 |some v=>
  have he:some (cM.val v H)=some r:=he;injection he with he;subst he
  obtain⟨v',a,b⟩:=af v rfl;exact .inl ⟨v',w,μ,by simp[a],h,Step.refl _ _,b⟩
theorem zM{s:Sem Value}{x:Option (Value×aB)}{r:cM}(af:∀v H',x=some (v,H')->∃v' bu bI,s.run P w=.ok v' bu/\ca P B w0 bI H' bu/\Step μ bI H H'/\bF bI v v')(he:mJ x=some r):
 nT P B w0 call aR μ H w (do pure (.value (<-s))) r:=by
 cases x with
 |none=>cases he
 |some p=>
  obtain⟨v,H'⟩:=p;have he:some (cM.val v H')=some r:=he;injection he with he;subst he
  obtain⟨v',bu,bI,a,b,c,d⟩:=af v H' rfl;exact .inl ⟨v',bu,bI,by simp[a],b,c,d⟩
theorem aly{s:Sem Unit}{x:Option aB}{r:cM}(af:∀H',x=some H'->∃bu,s.run P w=.ok () bu/\ca P B w0 μ H' bu/\Step μ μ H H')(he:Kl x=some r):
 nT P B w0 call aR μ H w (do s;pure .skip) r:=by
 cases x with
 |none=>cases he
 |some H'=>
  have he:some (cM.skip H')=some r:=he;injection he with he;subst he
  obtain⟨bu,a,b,c⟩:=af H' rfl;exact⟨bu,by simp[a],b,c⟩
theorem Gx(h:ca P B w0 μ H w)(aD:lu μ T n tmps)(PH:∀cs b,o.op≠.select cs b){r:cM}(he:fI P T H o=some r):nT P B w0 call aR μ H w (execOp (dA tmps) o) r:=by
 unfold fI at he;cases ar:ez T H o.op.operands.toList with
 |none=>rw[ar] at he;simp at he
 |some vs=>
  rw[ar] at he;simp only at he;cases aw:vs.all plain with
  |false=>rw[aw] at he;simp at he
  |true=>
   rw[aw,cb] at he;have ag6:execOp (pG T H) o=execOp (dA tmps) o:=execOp_congr o PH fun x U=>by
    obtain⟨v,a,b⟩:=alG ar x (by simpa using U);unfold pG;rw[a];exact(B9 (s8.1 aw v b) (vX h aD a)).symm
   rw[ag6] at he;cases hV:eP P (execOp (dA tmps) o) with
   |none=>rw[hV] at he;simp at he
   |some ak=>
    rw[hV] at he;have iv:=Up hV w;cases ak with
    |value v=>
     simp only at he;cases az:plain v with
     |false=>rw[az] at he;simp at he
     |true=>
      rw[az,cb] at he;simp only[cp] at he;subst he;exact .inl ⟨v,w,μ,iv,h,Step.refl _ _,qD az⟩
    |skip=>
     simp only[cp] at he;subst he;exact⟨w,iv,h,Step.refl _ _⟩
    |_=>simp at he
end
end
end Go.Cre

/- A part of the proof of TableClose. -/
import Derived.Test.YtpahonhejmlnpaaGreatDoorCah
import Derived.Laws.BytesString
import Derived.Laws.BytesArg
import Derived.Lib.UnsafeStr
import Derived.Laws.IdiomStrings
set_option linter.unusedVariables false
set_option linter.unusedSimpArgs false
namespace Go.Cre
noncomputable section
open Go.RowKit
section
variable {P:Program}{B:Nat->Prop}{w0 w:World}{μ:bz}{H H':ai}
theorem VP{x dg v:Value}{xt asserted:TypeId}{ok:Bool}(U:bc μ x dg)(he:GB P x asserted ok=some v)(w:World):
 ∃v',(Instr.typeAssert dg xt asserted ok).run P w=.ok v' w/\bc μ v v':=by
 unfold GB at he;simp only at he
 have Hy:∀v,(bif ok then(match fG P asserted with|some z=>bif plain z then some (Value.tuple #[z,.bool false]) else none|none=>none) else none)=some v->
  ok=true/\∃z,fG P asserted=some z/\plain z=true/\v=.tuple #[z,.bool false]:=by
  intro v ay;cases ok with
  |false=>simp at ay
  |true=>
   simp only[b1] at ay;cases a0:fG P asserted with
   |none=>rw[a0] at ay;simp at ay
   |some z=>
    rw[a0] at ay;simp only at ay;cases ao:plain z with
    |false=>rw[ao] at ay;simp at ay
    |true=>rw[ao] at ay;simp at ay;exact⟨rfl,z,rfl,ao,ay.symm⟩
 have AJ:∀z,plain z=true->bc μ (.tuple #[z,.bool false]) (.tuple #[z,.bool false]):=fun z a0=>bc.J6 (bF.cons (mZ a0) (bF.cons (.atom _ rfl) (bF.nil _)));have Oo:∀y kI,bc μ y kI->bc μ (bif ok then .tuple #[y,.bool true] else y) (if ok then .tuple #[kI,.bool true] else kI):=fun y kI aF=>by
  cases ok with
  |true=>exact bc.J6 (bF.cons aF (bF.cons (.atom _ rfl) (bF.nil _)))
  |false=>exact aF
 cases hu:P.underlying asserted with
 |none=>rw[hu] at he;simp at he
 |some d=>
  rw[hu] at he;cases x with
  |nilIface=>
   rw[U.Bl];have ay:(bif ok then(match fG P asserted with|some z=>bif plain z then some (Value.tuple #[z,.bool false]) else none|none=>none) else none)=some v:=by
    cases d<;>exact he
   obtain⟨rfl,z,a0,ao,rfl⟩:=Hy v ay;refine⟨_,?_,AJ z ao⟩;cases d<;>simp[Instr.typeAssert,ec hu,r3 a0]
  |iface t y=>
   obtain⟨kI,rfl,aF⟩:=U.sY;by_cases ar:∃want,d=.interface want
   ·obtain⟨want,rfl⟩:=ar;simp only at he;cases Dn:P.info? t with
    |none=>rw[Dn] at he;simp at he
    |some i=>
     rw[Dn] at he;simp only at he;cases oi:Instr.missingMethod want i.methods with
     |none=>
      rw[oi] at he;simp only[b9] at he;subst he;refine⟨_,?_,Oo _ _ (.iface t y kI aF)⟩;simp[Instr.typeAssert,ec hu,typeInfo,Dn,oi]
     |some Bm=>
      rw[oi] at he;obtain⟨rfl,z,a0,ao,rfl⟩:=Hy v he;refine⟨_,?_,AJ z ao⟩;simp[Instr.typeAssert,ec hu,typeInfo,Dn,oi,r3 a0]
   ·have nu:(bif Nat.beq t asserted then some (bif ok then .tuple #[y,.bool true] else y) else(bif ok then(match fG P asserted with|some z=>bif plain z then some (Value.tuple #[z,.bool false]) else none|none=>none) else none))=some v:=by
     cases d<;>first|exact he|exact absurd ⟨_,rfl⟩ ar
    cases ah:Nat.beq t asserted with
    |true=>
     rw[ah,b1] at nu;simp only[b9] at nu;subst nu;have:=dX ah;subst this;refine⟨_,?_,Oo _ _ aF⟩;cases d<;>first|exact absurd ⟨_,rfl⟩ ar|simp[Instr.typeAssert,ec hu]
    |false=>
     rw[ah,da] at nu;obtain⟨rfl,z,a0,ao,rfl⟩:=Hy v nu;have dP:t≠asserted:=fun e=>by subst e;simp at ah
     refine⟨_,?_,AJ z ao⟩;cases d<;>first|exact absurd ⟨_,rfl⟩ ar|simp[Instr.typeAssert,ec hu,dP,r3 a0]
  |_=>cases d<;>simp at he
theorem Vu{t:TypeId}{x dg y kI:Value}{r:Bool}(U:bc μ x dg)(aF:bc μ y kI)(he:sw P t x y=some r)(d:Nat)(w:World):(Op.equalIn (d+1) t dg kI).run P w=.ok r w:=by
 unfold sw at he;cases hu:P.underlying t with
 |none=>rw[hu] at he;simp at he
 |some oF=>
  rw[hu] at he;cases oF with
  |pointer elem=>
   cases x with
   |pointer a=>
    cases y with
    |pointer b=>
     cases a with
     |none=>
      rw[U.yG];cases b with
      |none=>rw[aF.yG];simp at he;subst he;simp[Op.equalIn,ec hu]
      |some b=>obtain⟨id,off,L,rfl,bP,rfl⟩:=aF.me;simp at he;subst he;simp[Op.equalIn,ec hu]
     |some a=>
      obtain⟨id,off,L,rfl,bP,rfl⟩:=U.me;cases b with
      |none=>rw[aF.yG];simp at he;subst he;simp[Op.equalIn,ec hu]
      |some b=>
       obtain⟨kg,e0,bC,rfl,rr,rfl⟩:=aF.me;simp only at he;cases af:ea P elem with
       |none=>rw[af] at he;simp at he
       |some n=>
        rw[af] at he;cases n with
        |zero=>simp at he
        |succ n=>
         simp only at he;cases ah:Nat.beq id kg with
         |false=>rw[ah] at he;simp at he
         |true=>
          rw[ah,b1] at he;have:=dX ah;subst this;rw[bP] at rr;injection rr with rr;subst rr
          simp only[b9] at he;subst he;have vQ:(({block:=id,off:=off}:Addr)=={block:=id,off:=e0})=(({block:=L.r,off:=off}:Addr)=={block:=L.r,off:=e0}):=by
           rw[nM];simp
          rw[vQ];simp[Op.equalIn,ec hu,iX af,sameAddr]
    |_=>simp at he
   |_=>simp at he
  |slice elem=>
   cases x with
   |slice a l c=>
    cases y with
    |slice b l' bw=>
     cases a with
     |none=>
      rw[U.pz];cases b with
      |none=>rw[aF.pz];simp at he;subst he;simp[Op.equalIn,ec hu]
      |some b=>obtain⟨_,_,rfl⟩:=aF.uH;simp at he;subst he;simp[Op.equalIn,ec hu]
     |some a=>
      obtain⟨_,_,rfl⟩:=U.uH;cases b with
      |none=>rw[aF.pz];simp at he;subst he;simp[Op.equalIn,ec hu]
      |some b=>simp at he
    |_=>simp at he
   |_=>simp at he
  |map k e=>
   cases x with
   |map a=>
    cases y with
    |map b=>
     cases a with
     |none=>
      rw[U.Bd];cases b with
      |none=>rw[aF.Bd];simp at he;subst he;simp[Op.equalIn,ec hu]
      |some b=>obtain⟨_,_,rfl⟩:=aF.Bc;simp at he;subst he;simp[Op.equalIn,ec hu]
     |some a=>
      obtain⟨_,_,rfl⟩:=U.Bc;cases b with
      |none=>rw[aF.Bd];simp at he;subst he;simp[Op.equalIn,ec hu]
      |some b=>simp at he
    |_=>simp at he
   |_=>simp at he
  |func ps rs v=>
   cases x with
   |nilFunc=>
    rw[U.Ef];cases y with
    |func fn a b=>
     simp at he;subst he;cases aF with
     |atom _ q=>simp[isAtom] at q
     |func=>simp[Op.equalIn,ec hu]
     |yield=>simp[Op.equalIn,ec hu]
    |_=>simp at he
   |func fn a b=>
    cases y with
    |nilFunc=>
     rw[aF.Ef];simp at he;subst he;cases U with
     |atom _ q=>simp[isAtom] at q
     |func=>simp[Op.equalIn,ec hu]
     |yield=>simp[Op.equalIn,ec hu]
    |_=>simp at he
   |_=>simp at he
  |interface Ea=>
   cases x with
   |nilIface=>
    rw[U.Bl];cases y with
    |iface t y=>obtain⟨_,rfl,_⟩:=aF.sY;simp at he;subst he;simp[Op.equalIn,ec hu]
    |_=>simp at he
   |iface t x=>
    obtain⟨_,rfl,_⟩:=U.sY;cases y with
    |nilIface=>rw[aF.Bl];simp at he;subst he;simp[Op.equalIn,ec hu]
    |_=>simp at he
   |_=>simp at he
  |_=>simp at he
theorem QX{r:Nat}{c:Array Value}{e:TypeId}{f:Nat×Nat}(h:w.heap[r]?=some (.cells c e f)):(shape r).run P w=.ok (some (e,c.size)) w:=by
 simp[shape,Sem.run,World.shape?,h]
theorem RP{r:Nat}{c:Array Value}{e:TypeId}{f:Nat×Nat}(h:w.heap[r]?=some (.cells c e f)):(viewAt r).run P w=.ok none w:=by
 simp[viewAt,QX h]
theorem T5{r:Nat}{c:Array Value}{e:TypeId}{f:Nat×Nat}(h:w.heap[r]?=some (.cells c e f)):(cellsIn r).run P w=.ok (some c.size) w:=by
 simp[cellsIn,QX h]
theorem Vq(h:bL P B w0 μ H w){src dst:TypeId}{x dg v:Value}(U:bc μ x dg)(he:Gw P H src dst x=some v):
 ∃v',(convert src dst dg).run P w=.ok v' w/\bc μ v v':=by
 unfold Gw at he;cases hu:P.underlying src with
 |none=>rw[hu] at he;simp at he
 |some ds=>
  rw[hu] at he;cases au:P.underlying dst with
  |none=>rw[au] at he;simp at he
  |some vp=>
   rw[au] at he;cases ds with
   |pointer t=>
    cases vp with
    |unsafePointer=>
     cases x with
     |pointer a=>
      cases a with
      |none=>simp at he
      |some a=>
       obtain⟨id,off,L,rfl,bP,rfl⟩:=U.me;simp only at he;cases af:ea P t with
       |none=>rw[af] at he;simp at he
       |some n=>
        rw[af] at he;cases n with
        |zero=>simp at he
        |succ n=>
         cases hm:H.mem.get id with
         |none=>rw[hm] at he;simp at he
         |some b=>
          rw[hm] at he;cases b with
          |row cells el opn bl dS sh=>
           simp only at he;cases ah:Nat.blt off cells.length with
           |false=>rw[ah] at he;simp at he
           |true=>
            rw[ah,b1] at he;simp only[b9] at he;subst he;have ah:off<cells.length:=gy ah;obtain⟨c,f,cm,cn,cR,fk,e9,fY,fJ⟩:=h.row bP hm;have cD:¬(c.size<=off):=by omega
            refine⟨_,?_,U⟩;simp[convert,ec hu,ec au,Conv.unsafePointer,Conv.seenAt,RP cm,T5 cm,cD,iX af]
          |_=>simp at he
     |_=>simp at he
    |_=>simp at he
   |unsafePointer=>
    cases vp with
    |pointer u=>
     cases x with
     |pointer a=>
      cases a with
      |none=>simp at he
      |some a=>
       obtain⟨id,off,L,rfl,bP,rfl⟩:=U.me;simp only at he;cases af:ea P u with
       |none=>rw[af] at he;simp at he
       |some n=>
        rw[af] at he;cases n with
        |zero=>simp at he
        |succ n=>
         cases hm:H.mem.get id with
         |none=>rw[hm] at he;simp at he
         |some b=>
          rw[hm] at he;cases b with
          |row cells el opn bl dS sh=>
           cases opn with
           |true=>simp at he
           |false=>
            simp only at he;cases ah:liesAt P P.depth el (cells.length / P.cellsOf el) off u 1 with
            |false=>rw[ah] at he;simp at he
            |true=>
             rw[ah,b1] at he;simp only[b9] at he;subst he;obtain⟨c,f,cm,cn,cR,fk,e9,fY,fJ⟩:=h.row bP hm;have kc:c.size=cells.length:=by rw[cn,e9 rfl]
             have Ih:w.shape? L.r=some (el,c.size):=by simp[World.shape?,cm]
             refine⟨_,?_,U⟩;simp[convert,ec hu,ec au,Conv.unsafePointer,Conv.seenAt,RP cm,iX af,variablesAt,Ih,kc,ah]
          |_=>simp at he
     |_=>simp at he
    |_=>simp at he
   |_=>cases vp<;>simp at he
end
end
end Go.Cre
namespace Go.Cre
noncomputable section
open Go.RowKit
section
variable {P:Program}{B:Nat->Prop}{w0 w:World}{μ:bz}{H H':ai}
theorem L':∀{l:List Value} {jz:List UInt8},nl l=some jz->l=jz.map (fun b=>Value.int .u8 (b.toNat:Int)):=by
 intro l;induction l with
 |nil=>intro jz h;simp[nl] at h;subst h;rfl
 |cons v l aP=>
  intro jz h;cases v with
  |int k n=>
   cases k with
   |u8=>
    cases n with
    |ofNat n=>
     simp only[nl] at h;cases cD:Nat.blt n 256 with
     |false=>rw[cD] at h;simp at h
     |true=>
      rw[cD,b1] at h;have cD:n<256:=gy cD;cases ah:nl l with
      |none=>rw[ah] at h;simp at h
      |some r=>
       rw[ah] at h;simp only[b9] at h;subst h;rw[u0,<-aP ah];congr 2
       have:(UInt8.ofNat n).toNat=n:=by simp;omega
       rw[this];rfl
    |negSucc n=>simp[nl] at h
   |_=>simp[nl] at h
  |_=>simp[nl] at h
theorem bF.bytes{jz:List UInt8}{l':List Value}(h:bF μ (jz.map fun b=>Value.int .u8 (b.toNat:Int)) l'):l'=jz.map fun b=>Value.int .u8 (b.toNat:Int):=by
 induction jz generalizing l' with
 |nil=>exact h.ji
 |cons b jz aP=>
  obtain⟨v',t,rfl,aa,ab⟩:=h.hO;rw[aa.nD,aP ab];rfl
theorem Zw{v:Value}(h:isByte v=true):∃n,v=.int .u8 (.ofNat n)/\Nat.blt n 256=true:=by
 cases v with
 |int k i=>
  cases k with
  |u8=>cases i with
   |ofNat n=>exact⟨n,rfl,h⟩
   |negSucc n=>cases h
  |_=>cases h
 |_=>cases h
theorem TC:∀(c r:List Value),(∀v∈c,isByte v=true)->nl c=some (Rl c.length (c++r)):=by
 intro c;induction c with
 |nil=>intro r _;cases r<;>rfl
 |cons v c aP=>
  intro r h;obtain⟨n,rfl,aw⟩:=Zw (h v (by simp));have ar:=aP r fun u hu=>h u (by simp[hu]);simp only[nl,aw,b1,ar];rfl
theorem UH(k:Nat)(l:List Value):su (k+1) l=Option.rec (motive:=fun _=>Option (List Value)) none (su k) (su k l):=rfl
theorem UG:∀{k:Nat} {l r:List Value},su k l=some r->∃c,l=c++r/\c.length=2 ^ k/\∀v∈c,isByte v=true:=by
 intro k;induction k with
 |zero=>
  intro l r h;cases l with
  |nil=>cases h
  |cons v l=>
   have h:Bool.rec (motive:=fun _=>Option (List Value)) none (some l) (isByte v)=some r:=h;cases ah:isByte v with
   |false=>rw[ah] at h;cases h
   |true=>rw[ah] at h;injection h with h;subst h;exact⟨[v],rfl,rfl,fun u hu=>by simp at hu;rw[hu];exact ah⟩
 |succ k aP=>
  intro l r h;rw[UH] at h;cases aa:su k l with
  |none=>rw[aa] at h;cases h
  |some m=>
   rw[aa] at h;have h:su k m=some r:=h;obtain⟨bn,rfl,aZ,cJ⟩:=aP aa;obtain⟨bQ,rfl,cp,h0⟩:=aP h;refine⟨bn++bQ,by simp,by simp[aZ,cp,mu];omega,fun v ay=>?_⟩;rcases nQ.1 ay with q|q
   ·exact cJ v q
   ·exact h0 v q
theorem UF(k n:Nat)(l:List Value):vn (k+1) n l=Bool.rec (motive:=fun _=>Bool) (Option.rec (motive:=fun _=>Bool) false (fun r=>vn k (Nat.sub n (Nat.pow 2 k)) r) (su k l)) (vn k n l) (Nat.blt n (Nat.pow 2 k)):=rfl
theorem UE:∀{k n:Nat} {l:List Value},vn k n l=true->∃c r,l=c++r/\c.length=n/\∀v∈c,isByte v=true:=by
 intro k;induction k with
 |zero=>
  intro n l h;have h:Nat.beq n 0=true:=h;exact⟨[],l,rfl,(dX h).symm,fun v ay=>by cases ay⟩
 |succ k aP=>
  intro n l h;rw[UF] at h;cases ah:Nat.blt n (Nat.pow 2 k) with
  |true=>rw[ah] at h;exact aP h
  |false=>
   rw[ah] at h;have iR:2 ^ k<=n:=by
    rcases hr n (2 ^ k) with q|q
    ·have:Nat.blt n (Nat.pow 2 k)=true:=j3 q;rw[ah] at this;cases this
    ·exact q
   cases aa:su k l with
   |none=>rw[aa] at h;cases h
   |some m=>
    rw[aa] at h;have h:vn k (n -2 ^ k) m=true:=h;obtain⟨bn,rfl,aZ,cJ⟩:=UG aa;obtain⟨bQ,r,rfl,cp,h0⟩:=aP h;have cp:bQ.length=n -2 ^ k:=cp;refine⟨bn++bQ,r,by simp,by rw[g1,aZ,cp];omega,fun v ay=>?_⟩;rcases nQ.1 ay with q|q
    ·exact cJ v q
    ·exact h0 v q
theorem adY{α:Type}:∀{c:List α} (r:List α),takeN c.length (c++r)=some c:=by
 intro c;induction c with
 |nil=>intro r;rfl
 |cons a c aP=>intro r;simp only[lx,Ck,takeN];rw[aP r]
theorem VN{src dst:TypeId}{x v:Value}(he:GA P H src dst x=some v):xq P H src dst x=some v:=by
 unfold GA at he;unfold xq;cases aa:P.underlying src with
 |none=>rw[aa] at he;cases he
 |some e1=>
  rw[aa] at he;cases ab:P.underlying dst with
  |none=>rw[ab] at he;cases e1<;>cases he
  |some oF=>
   rw[ab] at he;cases e1 with
   |slice e=>
    cases oF with
    |string=>
     cases x with
     |slice b len cap=>
      cases b with
      |none=>cases he
      |some a=>
       simp only at he ⊢;cases aR:P.underlying e with
       |none=>rw[aR] at he;cases he
       |some Rm=>
        rw[aR] at he;cases aN:a.spot with
        |some s=>rw[aN] at he;cases Rm<;>first|(cases he;done)|(rename_i k;cases k<;>cases he)
        |none=>
         rw[aN] at he;cases Rm with
         |int k=>
          cases k with
          |u8=>
           cases bG:H.mem.get a.block with
           |none=>rw[bG] at he;cases he
           |some ks=>
            rw[bG] at he;cases ks with
            |row cells el opn bl dS sh=>
             simp only at he ⊢;unfold Ro at he;cases au:vn 21 len (np a.off cells) with
             |false=>rw[au] at he;cases he
             |true=>
              rw[au,b1] at he;obtain⟨c,r,aC,aZ,cJ⟩:=UE au;have az:h1 H 1 len (.slice (some a) len 0)=some c:=by
               unfold h1;simp only[aN];cases len with
               |zero=>simp only;rw[uZ.1 aZ]
               |succ m=>
                simp only[bG,iZ];rw[aC,<-aZ];exact adY r
              simp only[az,TC c r cJ,uw,aN,lT,da];rw[aZ,<-aC];exact he
            |_=>cases he
          |_=>cases he
         |_=>cases he
     |_=>cases he
    |_=>cases x<;>first|(cases he;done)|(rename_i b _ _;cases b<;>cases he)
   |_=>cases he
theorem VM{src dst:TypeId}{x v:Value}(he:Gz P H src dst x=some v):xq P H src dst x=some v:=by
 unfold Gz at he;cases aA:IN x with
 |false=>rw[aA] at he;exact he
 |true=>rw[aA] at he;exact VN he
theorem VO(h:bL P B w0 μ H w){src dst:TypeId}{x dg v:Value}(U:bc μ x dg)(he:xq P H src dst x=some v):
 ∃v',(convert src dst dg).run P w=.ok v' w/\bc μ v v':=by
 unfold xq at he;cases hu:P.underlying src with
 |none=>rw[hu] at he;simp at he
 |some ds=>
  rw[hu] at he;cases au:P.underlying dst with
  |none=>rw[au] at he;simp at he
  |some vp=>
   rw[au] at he;cases ds with
   |slice e=>
    cases vp with
    |string=>
     cases x with
     |slice a len cap=>
      cases a with
      |none=>
       rw[U.pz];simp only at he;cases hs:P.underlying e with
       |none=>rw[hs] at he;simp at he
       |some Gn=>
        rw[hs] at he;cases Gn with
        |int k=>
         cases k with
         |u8=>
          simp only[b9] at he;subst he;refine⟨.string .empty,?_,.atom _ rfl⟩;rw[run_convert_bytes_string w src dst e _ _ _ hu hs au];simp[Conv.bytesToString]
         |_=>simp at he
        |_=>simp at he
      |some a=>
       have kB:a.spot=none:=by
        cases q:a.spot with
        |none=>rfl
        |some _=>simp[uw,q] at he
       obtain⟨id,off,L,e0,dx,rfl,bP,rfl,ag,_,_⟩:=U.r2 (.inl kB);simp only[uw,lT,da] at he;cases hs:P.underlying e with
       |none=>rw[hs] at he;simp at he
       |some Gn=>
        rw[hs] at he;cases Gn with
        |int k=>
         cases k with
         |u8=>
          simp only at he;cases az:h1 H 1 len (.slice (some ⟨id,off,none⟩) len 0) with
          |none=>rw[az] at he;simp at he
          |some cells=>
           rw[az] at he;simp only at he;cases ah:nl cells with
           |none=>rw[ah] at he;simp at he
           |some jz=>
            rw[ah] at he;simp only[b9] at he;subst he;have Di:=L' ah;have YS:bc μ (.slice (some ⟨id,off,none⟩) len 0) (.slice (some ⟨L.r,off,none⟩) len 0):=.lq id off len 0 L bP (by decide);obtain⟨l',cm,cn⟩:=CR h YS (m:=len) rfl (c5 _) az;rw[Di] at cm;have db:=cm.bytes;subst db;have Dr:(loadCells ⟨L.r,e0,none⟩ len).run P w=.ok ((jz.map fun b=>(b.toNat:Int)).map (Value.int .u8)).toArray w:=by
             by_cases aX:0<len
             ·rw[ag aX];have:=cn w.drawn;simp only[Builtin.firstCells,iZ] at this;rw[this];simp
             ·have sL:len=0:=by omega
              subst sL;have Xx:jz.map (fun b=>Value.int .u8 (b.toNat:Int))=[]:=by
               rw[<-Di];simp[h1] at az;exact az
              have:jz=[]:=by simpa using Xx
              subst this;simp[loadCells,loadCellsFrom]
            refine⟨.string ⟨jz.toArray⟩,?_,.atom _ rfl⟩;rw[run_convert_bytes_string w src dst e _ _ _ hu hs au,run_bytesToString w ⟨L.r,e0,none⟩ len dx _ Dr,foldl_push_bytes];congr 2
            have o5:((fun n:Int=>UInt8.ofNat n.toNat) ∘ fun b:UInt8=>(b.toNat:Int))=_root_.id:=by funext b;simp
            apply ByteArray.ext
            simp[o5]
         |_=>simp at he
        |_=>simp at he
     |_=>simp at he
    |_=>simp at he
   |_=>cases vp<;>simp at he
theorem V7{r n:Nat}{c:Array Value}{e:TypeId}{f:Nat×Nat}(h:w.heap[r]?=some (.cells c e f))(aw:n≠0):
 w.freeze ⟨r,0,none⟩ n={w with heap:=w.heap.setIfInBounds r (.cells c e (if f.1==f.2 then(0,0+n) else(min f.1 0,max f.2 (0+n))))}:=by
 have al:r<w.heap.size:=by
  rcases hr r w.heap.size with cS|cS
  ·exact cS
  ·rw[pC cS] at h;cases h
 unfold World.freeze;rw[a3 aw];congr 1
 apply y6
 intro i;rw[Sc,uS];by_cases ar:r=i
 ·subst ar;rw[bg rfl,bg rfl,h,bg al];rfl
 ·simp[ar]
theorem VQ(h:bL P B w0 μ H w){pv it dK:TypeId}{p gg n wc v:Value}(ao:bc μ p gg)(aw:bc μ n wc)(he:GC P H pv p n=some (v,H')):
 ∃v' a7,(Builtin.unsafeString_ #[pv,it] dK #[gg,wc]).run P w=.ok v' a7/\bL P B w0 μ H' a7/\Step μ μ H H'/\bc μ v v':=by
 unfold GC at he;cases p with
 |pointer a=>
  cases n with
  |int k i=>
   cases k with
   |i64=>
    obtain rfl:=aw.nD;cases i with
    |ofNat m=>
     cases m with
     |zero=>
      cases a with
      |none=>
       rw[ao.yG];simp only[b9,c'] at he;obtain⟨rfl,rfl⟩:=he;exact⟨_,w,Lib.run_unsafeString_none w pv it dK none,h,Step.refl _ _,.atom _ rfl⟩
      |some a=>
       obtain⟨id,off,L,rfl,bP,rfl⟩:=ao.me;simp only[b9,c'] at he;obtain⟨rfl,rfl⟩:=he;exact⟨_,w,Lib.run_unsafeString_none w pv it dK _,h,Step.refl _ _,.atom _ rfl⟩
     |succ m=>
      cases a with
      |none=>exact absurd (show none=some (v,H') from he) (by simp)
      |some a=>
       obtain⟨id,off,L,rfl,bP,rfl⟩:=ao.me;simp only at he;cases hu:P.underlying pv with
       |none=>rw[hu] at he;simp at he
       |some d=>
        rw[hu] at he;cases d with
        |pointer u=>
         cases hm:H.mem.get id with
         |none=>rw[hm] at he;simp at he
         |some b=>
          rw[hm] at he;cases b with
          |row cells e opn bl dS sh=>
           simp only at he;cases aL:(Nat.beq e u&&Nat.beq (P.cellsOf e) 1&&Nat.ble (m+1) 1000000&&!Nat.blt id H.bp&&Nat.beq off 0&&!sh) with
           |false=>rw[aL] at he;simp at he
           |true=>
            rw[aL] at he;simp only[lT,da] at he;simp only[fp,pD] at aL;obtain⟨⟨⟨⟨⟨aR,aN⟩,bG⟩,dd⟩,fm⟩,ho⟩:=aL;have aR:=dX aR;subst aR;have aN:=dX aN;have bG:=gy bG;have dd:=L7 dd;have fm:=dX fm;subst fm;cases aM:takeN (m+1) cells with
            |none=>rw[aM] at he;simp at he
            |some l=>
             rw[aM] at he;simp only at he;cases ah:nl l with
             |none=>rw[ah] at he;simp at he
             |some jz=>
              rw[ah] at he;simp only at he;cases Is:H.upd id (.row cells e opn bl (bif sh then pR else Nat.max dS (m+1)) sh) with
              |none=>rw[Is] at he;simp at he
              |some H0=>
               rw[Is] at he;simp only at he;cases HG:(bif opn then uq H0 id bl else some H0) with
               |none=>rw[HG] at he;simp at he
               |some H1=>
               rw[HG] at he;simp only[b9,c'] at he;obtain⟨rfl,rfl⟩:=he;obtain⟨c,f,cm,cn,cR,fk,e9,fY,fJ⟩:=h.row bP hm;obtain⟨t1,t2,t3⟩:=yP aM;have hle:=L' ah;have vN:jz.length=m+1:=by have:=aj List.length hle;simp at this;omega
               have db:bF μ l ((c.toList.take cells.length).take (m+1)):=by rw[t1];exact fY.take (m+1)
               rw[hle] at db;have Xs:=db.bytes;have Ih:w.shape? L.r=some (e,c.size):=by simp[World.shape?,cm]
               have fK:=Lib.run_unsafeString_row (P:=P) w pv it dK e hu aN L.r c.size Ih jz (by intro q;rw[q] at vN;simp at vN) (by omega) (by omega) (fun j x a5=>by
                rw[Addr.nY,nh,cell_of_row cm];have:((c.toList.take cells.length).take (m+1))[j]?=some (Value.int .u8 (x.toNat:Int)):=by rw[Xs,jt,a5];rfl
                rw[lW] at this;split at this
                ·rw[lW] at this;split at this
                 ·simpa using this
                 ·cases this
                ·cases this)
               rw[vN] at fK;have iQ:=V7 (n:=m+1) cm (by omega);rw[iQ] at fK;have ah:ia P μ L (.row cells e opn bl (bif sh then pR else Nat.max dS (m+1)) sh) (.cells c e (if f.1==f.2 then(0,0+(m+1)) else(min f.1 0,max f.2 (0+(m+1))))):=by
                refine⟨rfl,cn,cR,fk,e9,fun i v v' q c3=>fY.2 i v v' q ?_,?_⟩
                ·have ar:=(hq.1 q).1;rw[lW,bg ar];simpa using c3
                ·cases sh with
                 |true=>cases ho
                 |false=>
                  simp only[da];have rD:m+1<=Nat.max dS (m+1):=Nat.le_max_right _ _;have agV:dS<=Nat.max dS (m+1):=Nat.le_max_left _ _;rcases fJ.2 rfl with q|q
                  ·rw[bg (by simpa using q)];exact⟨fun off _ _ ab=>by simp at ab;omega,fun _=>.inr (by simpa using rD)⟩
                  ·by_cases nv:f.1=f.2
                   ·rw[bg (by simpa using nv)];exact⟨fun off _ _ ab=>by simp at ab;omega,fun _=>.inr (by simpa using rD)⟩
                   ·rw[a3 (by simpa using nv)];have:max f.2 (0+(m+1))<=Nat.max dS (m+1):=Nat.max_le.2 ⟨by omega,by omega⟩;exact⟨fun off _ _ ab=>by simp only at ab;omega,fun _=>.inr this⟩
               obtain⟨cX,cM⟩:=h.RZ bP dd hm rfl Is HG ah;exact⟨_,_,fK,cX,cM,.atom _ rfl⟩
          |_=>simp at he
        |_=>simp at he
    |negSucc m=>cases a<;>simp at he
   |_=>cases a<;>simp at he
  |_=>cases a<;>simp at he
 |_=>simp at he
theorem strCells_eq(l:List UInt8):strCells l=l.map fun b=>Value.int .u8 b.toNat:=by
 induction l with
 |nil=>rfl
 |cons b l aP=>show Value.int .u8 (.ofNat b.toNat)::strCells l=_;rw[aP];rfl
theorem ai.aaC{H H1:ai}{cells:List Value}{e:TypeId}{sh:Bool}{id:Nat}(aw:H.lM cells e sh=some (id,H1)):H1.ax=H.ax+1:=by
 unfold ai.lM at aw;cases az:H.rS with
 |none=>rw[az] at aw;cases aw
 |some p=>
  obtain⟨f,bK⟩:=p;rw[az] at aw;have aa:=(ai.mb aw).2.1;have ab:=(ai.Ee az).2.1;omega
theorem VK{src dst:TypeId}{s:ByteArray}{v:Value}{H1:ai}(he:sy P H src dst s=some (v,H1)):H1.ax=H.ax+1:=by
 unfold sy at he;split at he
 ·split at he
  ·rename_i e _ _ _ _;cases ah:Nat.beq (P.cellsOf e) 1 with
   |false=>rw[ah] at he;cases he
   |true=>
    rw[ah,b1] at he;cases aw:H.lM (strCells s.data.toList) e true with
    |none=>rw[aw] at he;cases he
    |some p=>
     obtain⟨id,bK⟩:=p;rw[aw] at he;have he:some (Value.slice (some ⟨id,0,none⟩) s.data.toList.length cu,bK)=some (v,H1):=he;simp only[b9,c'] at he;obtain⟨_,rfl⟩:=he;exact ai.aaC aw
  ·cases he
 ·cases he
theorem VL(h:bL P B w0 μ H w){src dst:TypeId}{s:ByteArray}{v:Value}{H1:ai}(he:sy P H src dst s=some (v,H1)):
 ∃v' a7 bd,(convert src dst (.string s)).run P w=.ok v' a7/\bL P B w0 bd H1 a7/\Step μ bd H H1/\bc bd v v':=by
 unfold sy at he;split at he
 ·rename_i e aa ab;split at he
  ·rename_i aY;cases ah:Nat.beq (P.cellsOf e) 1 with
   |false=>rw[ah] at he;cases he
   |true=>
    rw[ah,b1] at he;cases aw:H.lM (strCells s.data.toList) e true with
    |none=>rw[aw] at he;cases he
    |some p=>
     obtain⟨id,bK⟩:=p;rw[aw] at he;have he:some (Value.slice (some ⟨id,0,none⟩) s.data.toList.length cu,bK)=some (v,H1):=he;simp only[b9,c'] at he;obtain⟨rfl,rfl⟩:=he;have Di:=dX ah;have iR:=grownCap_ge w s.size 0 e;have dA:s.size=s.data.toList.length:=by rw[Array.length_toList];rfl
     have kV:(bytesRow s (grownCap w s.size 0 e)).size=grownCap w s.size 0 e:=by
      unfold bytesRow;have:s.data.size=s.size:=rfl;simp[this];omega
     obtain⟨bx,bX,rfl⟩:=h.drew.IR (o:=.cells (bytesRow s (grownCap w s.size 0 e)) e ((bytesRow s (grownCap w s.size 0 e)).size,(bytesRow s (grownCap w s.size 0 e)).size+1)) (L:=⟨w.heap.size,grownCap w s.size 0 e,1⟩) aw rfl (fun f=>by
      refine⟨rfl,kV,Di,?_,(fun q=>by cases q),fun i u gY x y=>?_,⟨fun off ag aa ab=>?_,(fun q=>by cases q)⟩⟩
      ·rw[strCells_eq,gx,<-dA];exact iR
      ·rw[strCells_eq,jt] at x;obtain⟨b,kM,rfl⟩:=sg.1 x;have ar:i<s.data.size:=by
        have:=(hq.1 kM).1;simpa using this
       unfold bytesRow at y;rw[KD,bg (by simpa using ar)] at y;rw[Array.getElem?_map,<-Array.getElem?_toList,kM] at y;simp only[Cr,b9] at y;subst y;exact .atom _ rfl
      ·rw[kV] at aa;show off<0;have:off<grownCap w s.size 0 e:=ag;omega)
     refine⟨_,_,_,run_bytes_of_string w src dst e s aa ab aY,bx,bX,?_⟩;rw[<-dA];exact .m6 H.ax 0 s.size _ ⟨w.heap.size,grownCap w s.size 0 e,1⟩ (bz.iw _ _ _) iR (by simp)
  ·cases he
 ·cases he
end
end
end Go.Cre
namespace Go.Cre
noncomputable section
open Go.RowKit
section
variable {P:Program}{B:Nat->Prop}{w0 w:World}{μ:bz}{H H':ai}{T:aQ Value}{n:Nat}{tmps:Array Value}
def cQ(tmps:Array Value):Operand->Value
 |.tmp t=>tmps.getD t undef
 |.const v=>v
 |.global g=>.pointer (some ⟨g,0,none⟩)
 |.func f=>.func (.func f) #[] #[]
theorem qu(h:bL P B w0 μ H w)(aM:iE μ T n tmps){x:Operand}{v:Value}(he:aW T H x=some v):bc μ v (cQ tmps x):=by
 cases x with
 |tmp t=>exact aM.2 t v he
 |const c=>
  have he:(bif plain c then some c else none)=some v:=he;cases ao:plain c with
  |false=>rw[ao] at he;simp at he
  |true=>rw[ao] at he;simp at he;subst he;exact mZ ao
 |global g=>
  have he:yD H g=some v:=he;unfold yD at he;cases aq:Nat.blt g H.bp with
  |false=>rw[aq] at he;simp at he
  |true=>
   rw[aq,b1] at he;have aq:g<H.bp:=gy aq;cases hm:H.mem.get g with
   |none=>rw[hm] at he;simp at he
   |some b=>
    rw[hm] at he;cases b with
    |row c e o f z s=>
     simp only[b9] at he;subst he;obtain⟨L,bP⟩:=h.pT g c e o f z s aq hm;have:=bc.ptr (μ:=μ) g 0 L bP;rw[h.own g L bP aq] at this;exact this
    |_=>simp at he
 |func f=>
  have he:some (Value.func (.func f) #[] #[])=some v:=he;injection he with he;subst he
  exact .func _ _ _ _ _ rfl rfl rfl (fun i v v' q=>by simp at q) (fun i v v' q=>by simp at q)
theorem BA(h:bL P B w0 μ H w)(aM:iE μ T n tmps):∀{l:List Operand} {vs:List Value},eQ T H l=some vs->bF μ vs (l.map (cQ tmps)):=by
 intro l;induction l with
 |nil=>intro vs he;simp[eQ] at he;subst he;exact bF.nil _
 |cons x l aP=>
  intro vs he;simp only[eQ] at he;cases U:aW T H x with
  |none=>rw[U] at he;simp at he
  |some v=>
   rw[U] at he;cases aA:eQ T H l with
   |none=>rw[aA] at he;simp at he
   |some r=>rw[aA] at he;simp at he;subst he;exact bF.cons (qu h aM U) (aP aA)
theorem abG:∀{l:List Operand} {vs:List Value},eQ T H l=some vs->∀x∈l,∃v,aW T H x=some v/\v∈vs:=by
 intro l;induction l with
 |nil=>intro vs he x U;simp at U
 |cons y l aP=>
  intro vs he x U;simp only[eQ] at he;cases aF:aW T H y with
  |none=>rw[aF] at he;simp at he
  |some v=>
   rw[aF] at he;cases aA:eQ T H l with
   |none=>rw[aA] at he;simp at he
   |some r=>
    rw[aA] at he;simp at he;subst he;rcases gj.1 U with rfl|U
    ·exact⟨v,aF,by simp⟩
    ·obtain⟨u,a,b⟩:=aP aA x U;exact⟨u,a,by simp[b]⟩
theorem P9(h:bL P B w0 μ H w)(aM:iE μ T n tmps):∀{l:List (Nat×Operand)} {ps:List (Nat×Value)},jF T H l=some ps->si μ ps (l.map fun(i,x)=>(i,cQ tmps x)):=by
 intro l;induction l with
 |nil=>intro vs he;simp[jF] at he;subst he;exact⟨rfl,fun i p gg q=>by simp at q⟩
 |cons x l aP=>
  intro vs he;obtain⟨i,x⟩:=x;simp only[jF] at he;cases U:aW T H x with
  |none=>rw[U] at he;simp at he
  |some v=>
   rw[U] at he;cases aA:jF T H l with
   |none=>rw[aA] at he;simp at he
   |some r=>
    rw[aA] at he;simp at he;subst he;have:=aP aA;refine⟨by simp[this.1],fun j p gg q c3=>?_⟩;cases j with
    |zero=>simp at q c3;subst q;subst c3;exact⟨rfl,qu h aM U⟩
    |succ j=>exact this.2 j p gg (by simpa using q) (by simpa using c3)
def lz(P:Program)(B:Nat->Prop)(w0:World)(call:ed)(aE:fX)(μ:bz)(H:ai)(w:World)(s:Sem Next):cv->Prop
 |.val v H'=>(∃v' a7 bd,s.run P w=.ok (.value v') a7/\bL P B w0 bd H' a7/\Step μ bd H H'/\bc bd v v')\/
  (∃f args b5,s.run P w=(callFunc f b5.toArray).run P w/\bF μ args b5/\call f args H=some (.returned v,H'))\/
  (∃l L args b5,μ l=some L/\s.run P w=(Instr.yield L.r b5.toArray).run P w/\bF μ args b5/\aE l args H=some (.returned v,H'))
 |.skip H'=>∃a7,s.run P w=.ok .skip a7/\bL P B w0 μ H' a7/\Step μ μ H H'
 |.ft d=>∃jd cap dx args b5,d={target:=.fn jd cap,args:=args.toArray}/\s.run P w=.ok (.defer {target:=.fn jd dx,args:=b5.toArray}) w/\s7 jd=true/\bF μ cap.toList dx.toList/\bF μ args b5
 |.h9 chain H'=>(∃v v',chain=[{v:=v,recovered:=false}]/\H'=H/\s.run P w=.halt (.panic v') w/\bc μ v v')\/
  (∃f args b5,s.run P w=(callFunc f b5.toArray).run P w/\bF μ args b5/\call f args H=some (.panicked chain,H'))
 |.wz=>s.run P w=.ok .recover w
variable {call:ed}{aE:fX}{o:Oper}{S:aT}
theorem mX{s:Sem Value}{x:Option Value}{r:cv}(h:bL P B w0 μ H w)(af:∀v,x=some v->∃v',s.run P w=.ok v' w/\bc μ v v')(he:fT x H=some r):
 lz P B w0 call aE μ H w (do pure (.value (<-s))) r:=by
 cases x with
 |none=>cases he
 |some v=>
  have he:some (cv.val v H)=some r:=he;injection he with he;subst he
  obtain⟨v',a,b⟩:=af v rfl;exact .inl ⟨v',w,μ,by simp[a],h,Step.refl _ _,b⟩
theorem td{s:Sem Value}{x:Option (Value×ai)}{r:cv}(af:∀v H',x=some (v,H')->∃v' a7 bd,s.run P w=.ok v' a7/\bL P B w0 bd H' a7/\Step μ bd H H'/\bc bd v v')(he:k1 x=some r):
 lz P B w0 call aE μ H w (do pure (.value (<-s))) r:=by
 cases x with
 |none=>cases he
 |some p=>
  obtain⟨v,H'⟩:=p;have he:some (cv.val v H')=some r:=he;injection he with he;subst he
  obtain⟨v',a7,bd,a,b,c,d⟩:=af v H' rfl;exact .inl ⟨v',a7,bd,by simp[a],b,c,d⟩
theorem aby{s:Sem Unit}{x:Option ai}{r:cv}(af:∀H',x=some H'->∃a7,s.run P w=.ok () a7/\bL P B w0 μ H' a7/\Step μ μ H H')(he:Dc x=some r):
 lz P B w0 call aE μ H w (do s;pure .skip) r:=by
 cases x with
 |none=>cases he
 |some H'=>
  have he:some (cv.skip H')=some r:=he;injection he with he;subst he
  obtain⟨a7,a,b,c⟩:=af H' rfl;exact⟨a7,by simp[a],b,c⟩
theorem zX(h:bL P B w0 μ H w)(aM:iE μ T n tmps)(Ig:∀cs b,o.op≠.select cs b){r:cv}(he:eI P T H o=some r):lz P B w0 call aE μ H w (execOp (cQ tmps) o) r:=by
 unfold eI at he;cases ag:eQ T H o.op.operands.toList with
 |none=>rw[ag] at he;simp at he
 |some vs=>
  rw[ag] at he;simp only at he;cases ao:vs.all plain with
  |false=>rw[ao] at he;simp at he
  |true=>
   rw[ao,b1] at he;have Xy:execOp (oA T H) o=execOp (cQ tmps) o:=execOp_congr o Ig fun x U=>by
    obtain⟨v,a,b⟩:=abG ag x (by simpa using U);unfold oA;rw[a];exact(Ev (qS.1 ao v b) (qu h aM a)).symm
   rw[Xy] at he;cases gd:eJ P (execOp (cQ tmps) o) with
   |none=>rw[gd] at he;simp at he
   |some ax=>
    rw[gd] at he;have fK:=MV gd w;cases ax with
    |value v=>
     simp only at he;cases ay:plain v with
     |false=>rw[ay] at he;simp at he
     |true=>
      rw[ay,b1] at he;simp only[b9] at he;subst he;exact .inl ⟨v,w,μ,fK,h,Step.refl _ _,mZ ay⟩
    |skip=>
     simp only[b9] at he;subst he;exact⟨w,fK,h,Step.refl _ _⟩
    |_=>simp at he
end
end
end Go.Cre

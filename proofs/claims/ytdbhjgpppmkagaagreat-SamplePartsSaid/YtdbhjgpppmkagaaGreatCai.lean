/- A part of the proof of SampleParts. -/
import Derived.Test.YtdbhjgpppmkagaaGreatCah
import Derived.Laws.BytesString
import Derived.Laws.BytesArg
import Derived.Lib.UnsafeStr
import Derived.Laws.IdiomStrings
set_option linter.unusedVariables false
set_option linter.unusedSimpArgs false
namespace Go.Cre
noncomputable section
open Go.RowKit
section
variable {P:Program}{B:Nat->Prop}{w0 w:World}{μ:bH}{H H':ao}
theorem aa5{x dD v:Value}{xt asserted:TypeId}{ok:Bool}(I:bj μ x dD)(he:Lc P x asserted ok=some v)(w:World):
 ∃v',(Instr.typeAssert dD xt asserted ok).run P w=.ok v' w/\bj μ v v':=by
 unfold Lc at he;simp only at he
 have Mk:∀v,(bif ok then(match fO P asserted with|some z=>bif plain z then some (Value.tuple #[z,.bool false]) else none|none=>none) else none)=some v->
  ok=true/\∃z,fO P asserted=some z/\plain z=true/\v=.tuple #[z,.bool false]:=by
  intro v ap;cases ok with
  |false=>simp at ap
  |true=>
   simp only[cc] at ap;cases bC:fO P asserted with
   |none=>rw[bC] at ap;simp at ap
   |some z=>
    rw[bC] at ap;simp only at ap;cases au:plain z with
    |false=>rw[au] at ap;simp at ap
    |true=>rw[au] at ap;simp at ap;exact⟨rfl,z,rfl,au,ap.symm⟩
 have EQ:∀z,plain z=true->bj μ (.tuple #[z,.bool false]) (.tuple #[z,.bool false]):=fun z bC=>bj.OR (bN.cons (oO bC) (bN.cons (.atom _ rfl) (bN.nil _)));have Tn:∀y jZ,bj μ y jZ->bj μ (bif ok then .tuple #[y,.bool true] else y) (if ok then .tuple #[jZ,.bool true] else jZ):=fun y jZ ah=>by
  cases ok with
  |true=>exact bj.OR (bN.cons ah (bN.cons (.atom _ rfl) (bN.nil _)))
  |false=>exact ah
 cases hu:P.underlying asserted with
 |none=>rw[hu] at he;simp at he
 |some d=>
  rw[hu] at he;cases x with
  |nilIface=>
   rw[I.Fw];have ap:(bif ok then(match fO P asserted with|some z=>bif plain z then some (Value.tuple #[z,.bool false]) else none|none=>none) else none)=some v:=by
    cases d<;>exact he
   obtain⟨rfl,z,bC,au,rfl⟩:=Mk v ap;refine⟨_,?_,EQ z au⟩;cases d<;>simp[Instr.typeAssert,eP hu,uE bC]
  |iface t y=>
   obtain⟨jZ,rfl,ah⟩:=I.vI;by_cases ak:∃want,d=.interface want
   ·obtain⟨want,rfl⟩:=ak;simp only at he;cases sw:P.info? t with
    |none=>rw[sw] at he;simp at he
    |some i=>
     rw[sw] at he;simp only at he;cases sy:Instr.missingMethod want i.methods with
     |none=>
      rw[sy] at he;simp only[b6] at he;subst he;refine⟨_,?_,Tn _ _ (.iface t y jZ ah)⟩;simp[Instr.typeAssert,eP hu,typeInfo,sw,sy]
     |some Fx=>
      rw[sy] at he;obtain⟨rfl,z,bC,au,rfl⟩:=Mk v he;refine⟨_,?_,EQ z au⟩;simp[Instr.typeAssert,eP hu,typeInfo,sw,sy,uE bC]
   ·have ph:(bif Nat.beq t asserted then some (bif ok then .tuple #[y,.bool true] else y) else(bif ok then(match fO P asserted with|some z=>bif plain z then some (Value.tuple #[z,.bool false]) else none|none=>none) else none))=some v:=by
     cases d<;>first|exact he|exact absurd ⟨_,rfl⟩ ak
    cases ai:Nat.beq t asserted with
    |true=>
     rw[ai,cc] at ph;simp only[b6] at ph;subst ph;have:=eK ai;subst this;refine⟨_,?_,Tn _ _ ah⟩;cases d<;>first|exact absurd ⟨_,rfl⟩ ak|simp[Instr.typeAssert,eP hu]
    |false=>
     rw[ai,dN] at ph;obtain⟨rfl,z,bC,au,rfl⟩:=Mk v ph;have dR:t≠asserted:=fun e=>by subst e;simp at ai
     refine⟨_,?_,EQ z au⟩;cases d<;>first|exact absurd ⟨_,rfl⟩ ak|simp[Instr.typeAssert,eP hu,dR,uE bC]
  |_=>cases d<;>simp at he
theorem aaJ{t:TypeId}{x dD y jZ:Value}{r:Bool}(I:bj μ x dD)(ah:bj μ y jZ)(he:w5 P t x y=some r)(d:Nat)(w:World):(Op.equalIn (d+1) t dD jZ).run P w=.ok r w:=by
 unfold w5 at he;cases hu:P.underlying t with
 |none=>rw[hu] at he;simp at he
 |some qC=>
  rw[hu] at he;cases qC with
  |pointer elem=>
   cases x with
   |pointer a=>
    cases y with
    |pointer b=>
     cases a with
     |none=>
      rw[I.Ch];cases b with
      |none=>rw[ah.Ch];simp at he;subst he;simp[Op.equalIn,eP hu]
      |some b=>obtain⟨id,off,L,rfl,bB,rfl⟩:=ah.n7;simp at he;subst he;simp[Op.equalIn,eP hu]
     |some a=>
      obtain⟨id,off,L,rfl,bB,rfl⟩:=I.n7;cases b with
      |none=>rw[ah.Ch];simp at he;subst he;simp[Op.equalIn,eP hu]
      |some b=>
       obtain⟨lF,ga,bw,rfl,nN,rfl⟩:=ah.n7;simp only at he;cases al:eB P elem with
       |none=>rw[al] at he;simp at he
       |some n=>
        rw[al] at he;cases n with
        |zero=>simp at he
        |succ n=>
         simp only at he;cases ai:Nat.beq id lF with
         |false=>rw[ai] at he;simp at he
         |true=>
          rw[ai,cc] at he;have:=eK ai;subst this;rw[bB] at nN;injection nN with nN;subst nN
          simp only[b6] at he;subst he;have zj:(({block:=id,off:=off}:Addr)=={block:=id,off:=ga})=(({block:=L.r,off:=off}:Addr)=={block:=L.r,off:=ga}):=by
           rw[oc];simp
          rw[zj];simp[Op.equalIn,eP hu,km al,sameAddr]
    |_=>simp at he
   |_=>simp at he
  |slice elem=>
   cases x with
   |slice a l c=>
    cases y with
    |slice b l' b1=>
     cases a with
     |none=>
      rw[I.rO];cases b with
      |none=>rw[ah.rO];simp at he;subst he;simp[Op.equalIn,eP hu]
      |some b=>obtain⟨_,_,rfl⟩:=ah.x4;simp at he;subst he;simp[Op.equalIn,eP hu]
     |some a=>
      obtain⟨_,_,rfl⟩:=I.x4;cases b with
      |none=>rw[ah.rO];simp at he;subst he;simp[Op.equalIn,eP hu]
      |some b=>simp at he
    |_=>simp at he
   |_=>simp at he
  |map k e=>
   cases x with
   |map a=>
    cases y with
    |map b=>
     cases a with
     |none=>
      rw[I.Fo];cases b with
      |none=>rw[ah.Fo];simp at he;subst he;simp[Op.equalIn,eP hu]
      |some b=>obtain⟨_,_,rfl⟩:=ah.Fm;simp at he;subst he;simp[Op.equalIn,eP hu]
     |some a=>
      obtain⟨_,_,rfl⟩:=I.Fm;cases b with
      |none=>rw[ah.Fo];simp at he;subst he;simp[Op.equalIn,eP hu]
      |some b=>simp at he
    |_=>simp at he
   |_=>simp at he
  |func dx g1 v=>
   cases x with
   |nilFunc=>
    rw[I.IS];cases y with
    |func fn a b=>
     simp at he;subst he;cases ah with
     |atom _ q=>simp[isAtom] at q
     |func=>simp[Op.equalIn,eP hu]
     |yield=>simp[Op.equalIn,eP hu]
    |_=>simp at he
   |func fn a b=>
    cases y with
    |nilFunc=>
     rw[ah.IS];simp at he;subst he;cases I with
     |atom _ q=>simp[isAtom] at q
     |func=>simp[Op.equalIn,eP hu]
     |yield=>simp[Op.equalIn,eP hu]
    |_=>simp at he
   |_=>simp at he
  |interface Fq=>
   cases x with
   |nilIface=>
    rw[I.Fw];cases y with
    |iface t y=>obtain⟨_,rfl,_⟩:=ah.vI;simp at he;subst he;simp[Op.equalIn,eP hu]
    |_=>simp at he
   |iface t x=>
    obtain⟨_,rfl,_⟩:=I.vI;cases y with
    |nilIface=>rw[ah.Fw];simp at he;subst he;simp[Op.equalIn,eP hu]
    |_=>simp at he
   |_=>simp at he
  |_=>simp at he
theorem V9{r:Nat}{c:Array Value}{e:TypeId}{f:Nat×Nat}(h:w.heap[r]?=some (.cells c e f)):(shape r).run P w=.ok (some (e,c.size)) w:=by
 simp[shape,Sem.run,World.shape?,h]
theorem W0{r:Nat}{c:Array Value}{e:TypeId}{f:Nat×Nat}(h:w.heap[r]?=some (.cells c e f)):(viewAt r).run P w=.ok none w:=by
 simp[viewAt,V9 h]
theorem Y6{r:Nat}{c:Array Value}{e:TypeId}{f:Nat×Nat}(h:w.heap[r]?=some (.cells c e f)):(cellsIn r).run P w=.ok (some c.size) w:=by
 simp[cellsIn,V9 h]
theorem aaF(h:bR P B w0 μ H w){src dst:TypeId}{x dD v:Value}(I:bj μ x dD)(he:K8 P H src dst x=some v):
 ∃v',(convert src dst dD).run P w=.ok v' w/\bj μ v v':=by
 unfold K8 at he;cases hu:P.underlying src with
 |none=>rw[hu] at he;simp at he
 |some ds=>
  rw[hu] at he;cases aS:P.underlying dst with
  |none=>rw[aS] at he;simp at he
  |some yN=>
   rw[aS] at he;cases ds with
   |pointer t=>
    cases yN with
    |unsafePointer=>
     cases x with
     |pointer a=>
      cases a with
      |none=>simp at he
      |some a=>
       obtain⟨id,off,L,rfl,bB,rfl⟩:=I.n7;simp only at he;cases al:eB P t with
       |none=>rw[al] at he;simp at he
       |some n=>
        rw[al] at he;cases n with
        |zero=>simp at he
        |succ n=>
         cases hm:H.mem.get id with
         |none=>rw[hm] at he;simp at he
         |some b=>
          rw[hm] at he;cases b with
          |row cells el opn br eD sh=>
           simp only at he;cases ai:Nat.blt off cells.length with
           |false=>rw[ai] at he;simp at he
           |true=>
            rw[ai,cc] at he;simp only[b6] at he;subst he;have ai:off<cells.length:=hC ai;obtain⟨c,f,b4,bX,cg,fJ,fV,gW,gJ⟩:=h.row bB hm;have cP:¬(c.size<=off):=by omega
            refine⟨_,?_,I⟩;simp[convert,eP hu,eP aS,Conv.unsafePointer,Conv.seenAt,W0 b4,Y6 b4,cP,km al]
          |_=>simp at he
     |_=>simp at he
    |_=>simp at he
   |unsafePointer=>
    cases yN with
    |pointer u=>
     cases x with
     |pointer a=>
      cases a with
      |none=>simp at he
      |some a=>
       obtain⟨id,off,L,rfl,bB,rfl⟩:=I.n7;simp only at he;cases al:eB P u with
       |none=>rw[al] at he;simp at he
       |some n=>
        rw[al] at he;cases n with
        |zero=>simp at he
        |succ n=>
         cases hm:H.mem.get id with
         |none=>rw[hm] at he;simp at he
         |some b=>
          rw[hm] at he;cases b with
          |row cells el opn br eD sh=>
           cases opn with
           |true=>simp at he
           |false=>
            simp only at he;cases ai:liesAt P P.depth el (cells.length / P.cellsOf el) off u 1 with
            |false=>rw[ai] at he;simp at he
            |true=>
             rw[ai,cc] at he;simp only[b6] at he;subst he;obtain⟨c,f,b4,bX,cg,fJ,fV,gW,gJ⟩:=h.row bB hm;have jw:c.size=cells.length:=by rw[bX,fV rfl]
             have M1:w.shape? L.r=some (el,c.size):=by simp[World.shape?,b4]
             refine⟨_,?_,I⟩;simp[convert,eP hu,eP aS,Conv.unsafePointer,Conv.seenAt,W0 b4,km al,variablesAt,M1,jw,ai]
          |_=>simp at he
     |_=>simp at he
    |_=>simp at he
   |_=>cases yN<;>simp at he
end
end
end Go.Cre
namespace Go.Cre
noncomputable section
open Go.RowKit
section
variable {P:Program}{B:Nat->Prop}{w0 w:World}{μ:bH}{H H':ao}
theorem QV:∀{l:List Value} {bs:List UInt8},o6 l=some bs->l=bs.map (fun b=>Value.int .u8 (b.toNat:Int)):=by
 intro l;induction l with
 |nil=>intro bs h;simp[o6] at h;subst h;rfl
 |cons v l aG=>
  intro bs h;cases v with
  |int k n=>
   cases k with
   |u8=>
    cases n with
    |ofNat n=>
     simp only[o6] at h;cases cP:Nat.blt n 256 with
     |false=>rw[cP] at h;simp at h
     |true=>
      rw[cP,cc] at h;have cP:n<256:=hC cP;cases ai:o6 l with
      |none=>rw[ai] at h;simp at h
      |some r=>
       rw[ai] at h;simp only[b6] at h;subst h;rw[k2,<-aG ai];congr 2
       have:(UInt8.ofNat n).toNat=n:=by simp;omega
       rw[this];rfl
    |negSucc n=>simp[o6] at h
   |_=>simp[o6] at h
  |_=>simp[o6] at h
theorem bN.bytes{bs:List UInt8}{l':List Value}(h:bN μ (bs.map fun b=>Value.int .u8 (b.toNat:Int)) l'):l'=bs.map fun b=>Value.int .u8 (b.toNat:Int):=by
 induction bs generalizing l' with
 |nil=>exact h.kA
 |cons b bs aG=>
  obtain⟨v',t,rfl,aa,ab⟩:=h.iN;rw[aa.pu,aG ab];rfl
theorem ae7{v:Value}(h:isByte v=true):∃n,v=.int .u8 (.ofNat n)/\Nat.blt n 256=true:=by
 cases v with
 |int k i=>
  cases k with
  |u8=>cases i with
   |ofNat n=>exact⟨n,rfl,h⟩
   |negSucc n=>cases h
  |_=>cases h
 |_=>cases h
theorem YG:∀(c r:List Value),(∀v∈c,isByte v=true)->o6 c=some (Wu c.length (c++r)):=by
 intro c;induction c with
 |nil=>intro r _;cases r<;>rfl
 |cons v c aG=>
  intro r h;obtain⟨n,rfl,aM⟩:=ae7 (h v (by simp));have ak:=aG r fun u hu=>h u (by simp[hu]);simp only[o6,aM,cc,ak];rfl
theorem ZU(k:Nat)(l:List Value):vb (k+1) l=Option.rec (motive:=fun _=>Option (List Value)) none (vb k) (vb k l):=rfl
theorem ZT:∀{k:Nat} {l r:List Value},vb k l=some r->∃c,l=c++r/\c.length=2 ^ k/\∀v∈c,isByte v=true:=by
 intro k;induction k with
 |zero=>
  intro l r h;cases l with
  |nil=>cases h
  |cons v l=>
   have h:Bool.rec (motive:=fun _=>Option (List Value)) none (some l) (isByte v)=some r:=h;cases ai:isByte v with
   |false=>rw[ai] at h;cases h
   |true=>rw[ai] at h;injection h with h;subst h;exact⟨[v],rfl,rfl,fun u hu=>by simp at hu;rw[hu];exact ai⟩
 |succ k aG=>
  intro l r h;rw[ZU] at h;cases aa:vb k l with
  |none=>rw[aa] at h;cases h
  |some m=>
   rw[aa] at h;have h:vb k m=some r:=h;obtain⟨bx,rfl,a5,cC⟩:=aG aa;obtain⟨bT,rfl,ch,js⟩:=aG h;refine⟨bx++bT,by simp,by simp[a5,ch,PZ];omega,fun v ap=>?_⟩;rcases lL.1 ap with q|q
   ·exact cC v q
   ·exact js v q
theorem ZS(k n:Nat)(l:List Value):yL (k+1) n l=Bool.rec (motive:=fun _=>Bool) (Option.rec (motive:=fun _=>Bool) false (fun r=>yL k (Nat.sub n (Nat.pow 2 k)) r) (vb k l)) (yL k n l) (Nat.blt n (Nat.pow 2 k)):=rfl
theorem ZR:∀{k n:Nat} {l:List Value},yL k n l=true->∃c r,l=c++r/\c.length=n/\∀v∈c,isByte v=true:=by
 intro k;induction k with
 |zero=>
  intro n l h;have h:Nat.beq n 0=true:=h;exact⟨[],l,rfl,(eK h).symm,fun v ap=>by cases ap⟩
 |succ k aG=>
  intro n l h;rw[ZS] at h;cases ai:Nat.blt n (Nat.pow 2 k) with
  |true=>rw[ai] at h;exact aG h
  |false=>
   rw[ai] at h;have pk:2 ^ k<=n:=by
    rcases jo n (2 ^ k) with q|q
    ·have:Nat.blt n (Nat.pow 2 k)=true:=kK q;rw[ai] at this;cases this
    ·exact q
   cases aa:vb k l with
   |none=>rw[aa] at h;cases h
   |some m=>
    rw[aa] at h;have h:yL k (n -2 ^ k) m=true:=h;obtain⟨bx,rfl,a5,cC⟩:=ZT aa;obtain⟨bT,r,rfl,ch,js⟩:=aG h;have ch:bT.length=n -2 ^ k:=ch;refine⟨bx++bT,r,by simp,by rw[er,a5,ch];omega,fun v ap=>?_⟩;rcases lL.1 ap with q|q
    ·exact cC v q
    ·exact js v q
theorem ajX{α:Type}:∀{c:List α} (r:List α),takeN c.length (c++r)=some c:=by
 intro c;induction c with
 |nil=>intro r;rfl
 |cons a c aG=>intro r;simp only[j2,List.cons_append,takeN];rw[aG r]
theorem aa3{src dst:TypeId}{x v:Value}(he:Lb P H src dst x=some v):A0 P H src dst x=some v:=by
 unfold Lb at he;unfold A0;cases aa:P.underlying src with
 |none=>rw[aa] at he;cases he
 |some fN=>
  rw[aa] at he;cases ab:P.underlying dst with
  |none=>rw[ab] at he;cases fN<;>cases he
  |some qC=>
   rw[ab] at he;cases fN with
   |slice e=>
    cases qC with
    |string=>
     cases x with
     |slice b len cap=>
      cases b with
      |none=>cases he
      |some a=>
       simp only at he ⊢;cases aZ:P.underlying e with
       |none=>rw[aZ] at he;cases he
       |some Wv=>
        rw[aZ] at he;cases aR:a.spot with
        |some s=>rw[aR] at he;cases Wv<;>first|(cases he;done)|(rename_i k;cases k<;>cases he)
        |none=>
         rw[aR] at he;cases Wv with
         |int k=>
          cases k with
          |u8=>
           cases bY:H.mem.get a.block with
           |none=>rw[bY] at he;cases he
           |some Kw=>
            rw[bY] at he;cases Kw with
            |row cells el opn br eD sh=>
             simp only at he ⊢;unfold Ww at he;cases aS:yL 21 len (nI a.off cells) with
             |false=>rw[aS] at he;cases he
             |true=>
              rw[aS,cc] at he;obtain⟨c,r,aD,a5,cC⟩:=ZR aS;have aw:jt H 1 len (.slice (some a) len 0)=some c:=by
               unfold jt;simp only[aR];cases len with
               |zero=>simp only;rw[qL.1 a5]
               |succ m=>
                simp only[bY,s'];rw[aD,<-a5];exact ajX r
              simp only[aw,YG c r cC,xJ,aR,lK,dN];rw[a5,<-aD];exact he
            |_=>cases he
          |_=>cases he
         |_=>cases he
     |_=>cases he
    |_=>cases x<;>first|(cases he;done)|(rename_i b _ _;cases b<;>cases he)
   |_=>cases he
theorem aa2{src dst:TypeId}{x v:Value}(he:La P H src dst x=some v):A0 P H src dst x=some v:=by
 unfold La at he;cases ay:Nu x with
 |false=>rw[ay] at he;exact he
 |true=>rw[ay] at he;exact aa3 he
theorem aa4(h:bR P B w0 μ H w){src dst:TypeId}{x dD v:Value}(I:bj μ x dD)(he:A0 P H src dst x=some v):
 ∃v',(convert src dst dD).run P w=.ok v' w/\bj μ v v':=by
 unfold A0 at he;cases hu:P.underlying src with
 |none=>rw[hu] at he;simp at he
 |some ds=>
  rw[hu] at he;cases aS:P.underlying dst with
  |none=>rw[aS] at he;simp at he
  |some yN=>
   rw[aS] at he;cases ds with
   |slice e=>
    cases yN with
    |string=>
     cases x with
     |slice a len cap=>
      cases a with
      |none=>
       rw[I.rO];simp only at he;cases nQ:P.underlying e with
       |none=>rw[nQ] at he;simp at he
       |some K0=>
        rw[nQ] at he;cases K0 with
        |int k=>
         cases k with
         |u8=>
          simp only[b6] at he;subst he;refine⟨.string .empty,?_,.atom _ rfl⟩;rw[run_convert_bytes_string w src dst e _ _ _ hu nQ aS];simp[Conv.bytesToString]
         |_=>simp at he
        |_=>simp at he
      |some a=>
       have mr:a.spot=none:=by
        cases q:a.spot with
        |none=>rfl
        |some _=>simp[xJ,q] at he
       obtain⟨id,off,L,ga,dY,rfl,bB,rfl,an,_,_⟩:=I.uz (.inl mr);simp only[xJ,lK,dN] at he;cases nQ:P.underlying e with
       |none=>rw[nQ] at he;simp at he
       |some K0=>
        rw[nQ] at he;cases K0 with
        |int k=>
         cases k with
         |u8=>
          simp only at he;cases aw:jt H 1 len (.slice (some ⟨id,off,none⟩) len 0) with
          |none=>rw[aw] at he;simp at he
          |some cells=>
           rw[aw] at he;simp only at he;cases ai:o6 cells with
           |none=>rw[ai] at he;simp at he
           |some bs=>
            rw[ai] at he;simp only[b6] at he;subst he;have HP:=QV ai;have aes:bj μ (.slice (some ⟨id,off,none⟩) len 0) (.slice (some ⟨L.r,off,none⟩) len 0):=.m5 id off len 0 L bB (by decide);obtain⟨l',b4,bX⟩:=Hk h aes (m:=len) rfl (dH _) aw;rw[HP] at b4;have de:=b4.bytes;subst de;have Bm:(loadCells ⟨L.r,ga,none⟩ len).run P w=.ok ((bs.map fun b=>(b.toNat:Int)).map (Value.int .u8)).toArray w:=by
             by_cases bt:0<len
             ·rw[an bt];have:=bX w.drawn;simp only[Builtin.firstCells,s'] at this;rw[this];simp
             ·have sx:len=0:=by omega
              subst sx;have q9:bs.map (fun b=>Value.int .u8 (b.toNat:Int))=[]:=by
               rw[<-HP];simp[jt] at aw;exact aw
              have:bs=[]:=by simpa using q9
              subst this;simp[loadCells,loadCellsFrom]
            refine⟨.string ⟨bs.toArray⟩,?_,.atom _ rfl⟩;rw[run_convert_bytes_string w src dst e _ _ _ hu nQ aS,run_bytesToString w ⟨L.r,ga,none⟩ len dY _ Bm,foldl_push_bytes];congr 2
            have zm:((fun n:Int=>UInt8.ofNat n.toNat) ∘ fun b:UInt8=>(b.toNat:Int))=_root_.id:=by funext b;simp
            apply ByteArray.ext
            simp[zm]
         |_=>simp at he
        |_=>simp at he
     |_=>simp at he
    |_=>simp at he
   |_=>cases yN<;>simp at he
theorem abu{r n:Nat}{c:Array Value}{e:TypeId}{f:Nat×Nat}(h:w.heap[r]?=some (.cells c e f))(aM:n≠0):
 w.freeze ⟨r,0,none⟩ n={w with heap:=w.heap.setIfInBounds r (.cells c e (if f.1==f.2 then(0,0+n) else(min f.1 0,max f.2 (0+n))))}:=by
 have ax:r<w.heap.size:=by
  rcases jo r w.heap.size with ez|ez
  ·exact ez
  ·rw[rT ez] at h;cases h
 unfold World.freeze;rw[aq aM];congr 1
 apply CF
 intro i;rw[Xo,yk];by_cases ak:r=i
 ·subst ak;rw[aF rfl,aF rfl,h,aF ax];rfl
 ·simp[ak]
theorem aa6(h:bR P B w0 μ H w){rL it eV:TypeId}{p hK n n' v:Value}(au:bj μ p hK)(aM:bj μ n n')(he:Ld P H rL p n=some (v,H')):
 ∃v' bb,(Builtin.unsafeString_ #[rL,it] eV #[hK,n']).run P w=.ok v' bb/\bR P B w0 μ H' bb/\Step μ μ H H'/\bj μ v v':=by
 unfold Ld at he;cases p with
 |pointer a=>
  cases n with
  |int k i=>
   cases k with
   |i64=>
    obtain rfl:=aM.pu;cases i with
    |ofNat m=>
     cases m with
     |zero=>
      cases a with
      |none=>
       rw[au.Ch];simp only[b6,da] at he;obtain⟨rfl,rfl⟩:=he;exact⟨_,w,Lib.run_unsafeString_none w rL it eV none,h,Step.refl _ _,.atom _ rfl⟩
      |some a=>
       obtain⟨id,off,L,rfl,bB,rfl⟩:=au.n7;simp only[b6,da] at he;obtain⟨rfl,rfl⟩:=he;exact⟨_,w,Lib.run_unsafeString_none w rL it eV _,h,Step.refl _ _,.atom _ rfl⟩
     |succ m=>
      cases a with
      |none=>exact absurd (show none=some (v,H') from he) (by simp)
      |some a=>
       obtain⟨id,off,L,rfl,bB,rfl⟩:=au.n7;simp only at he;cases hu:P.underlying rL with
       |none=>rw[hu] at he;simp at he
       |some d=>
        rw[hu] at he;cases d with
        |pointer u=>
         cases hm:H.mem.get id with
         |none=>rw[hm] at he;simp at he
         |some b=>
          rw[hm] at he;cases b with
          |row cells e opn br eD sh=>
           simp only at he;cases av:(Nat.beq e u&&Nat.beq (P.cellsOf e) 1&&Nat.ble (m+1) 1000000&&!Nat.blt id H.bq&&Nat.beq off 0&&!sh) with
           |false=>rw[av] at he;simp at he
           |true=>
            rw[av] at he;simp only[lK,dN] at he;simp only[fR,pJ] at av;obtain⟨⟨⟨⟨⟨aZ,aR⟩,bY⟩,ep⟩,gl⟩,kY⟩:=av;have aZ:=eK aZ;subst aZ;have aR:=eK aR;have bY:=hC bY;have ep:=QK ep;have gl:=eK gl;subst gl;cases aN:takeN (m+1) cells with
            |none=>rw[aN] at he;simp at he
            |some l=>
             rw[aN] at he;simp only at he;cases ai:o6 l with
             |none=>rw[ai] at he;simp at he
             |some bs=>
              rw[ai] at he;simp only at he;cases M9:H.upd id (.row cells e opn br (bif sh then se else Nat.max eD (m+1)) sh) with
              |none=>rw[M9] at he;simp at he
              |some H0=>
               rw[M9] at he;simp only at he;cases MA:(bif opn then xE H0 id br else some H0) with
               |none=>rw[MA] at he;simp at he
               |some H1=>
               rw[MA] at he;simp only[b6,da] at he;obtain⟨rfl,rfl⟩:=he;obtain⟨c,f,b4,bX,cg,fJ,fV,gW,gJ⟩:=h.row bB hm;obtain⟨t1,t2,t3⟩:=Cs aN;have hle:=QV ai;have zh:bs.length=m+1:=by have:=fl List.length hle;simp at this;omega
               have de:bN μ l ((c.toList.take cells.length).take (m+1)):=by rw[t1];exact gW.take (m+1)
               rw[hle] at de;have acR:=de.bytes;have M1:w.shape? L.r=some (e,c.size):=by simp[World.shape?,b4]
               have gK:=Lib.run_unsafeString_row (P:=P) w rL it eV e hu aR L.r c.size M1 bs (by intro q;rw[q] at zh;simp at zh) (by omega) (by omega) (fun j x aU=>by
                rw[Addr.pQ,lN,cell_of_row b4];have:((c.toList.take cells.length).take (m+1))[j]?=some (Value.int .u8 (x.toNat:Int)):=by rw[acR,gG,aU];rfl
                rw[kr] at this;split at this
                ·rw[kr] at this;split at this
                 ·simpa using this
                 ·cases this
                ·cases this)
               rw[zh] at gK;have ke:=abu (n:=m+1) b4 (by omega);rw[ke] at gK;have ai:jm P μ L (.row cells e opn br (bif sh then se else Nat.max eD (m+1)) sh) (.cells c e (if f.1==f.2 then(0,0+(m+1)) else(min f.1 0,max f.2 (0+(m+1))))):=by
                refine⟨rfl,bX,cg,fJ,fV,fun i v v' q dt=>gW.2 i v v' q ?_,?_⟩
                ·have ak:=(dv.1 q).1;rw[kr,aF ak];simpa using dt
                ·cases sh with
                 |true=>cases kY
                 |false=>
                  simp only[dN];have MK:m+1<=Nat.max eD (m+1):=Nat.le_max_right _ _;have anB:eD<=Nat.max eD (m+1):=Nat.le_max_left _ _;rcases gJ.2 rfl with q|q
                  ·rw[aF (by simpa using q)];exact⟨fun off _ _ ab=>by simp at ab;omega,fun _=>.inr (by simpa using MK)⟩
                  ·by_cases pi:f.1=f.2
                   ·rw[aF (by simpa using pi)];exact⟨fun off _ _ ab=>by simp at ab;omega,fun _=>.inr (by simpa using MK)⟩
                   ·rw[aq (by simpa using pi)];have:max f.2 (0+(m+1))<=Nat.max eD (m+1):=Nat.max_le.2 ⟨by omega,by omega⟩;exact⟨fun off _ _ ab=>by simp only at ab;omega,fun _=>.inr this⟩
               obtain⟨cO,dI⟩:=h.Xc bB ep hm rfl M9 MA ai;exact⟨_,_,gK,cO,dI,.atom _ rfl⟩
          |_=>simp at he
        |_=>simp at he
    |negSucc m=>cases a<;>simp at he
   |_=>cases a<;>simp at he
  |_=>cases a<;>simp at he
 |_=>simp at he
theorem strCells_eq(l:List UInt8):strCells l=l.map fun b=>Value.int .u8 b.toNat:=by
 induction l with
 |nil=>rfl
 |cons b l aG=>show Value.int .u8 (.ofNat b.toNat)::strCells l=_;rw[aG];rfl
theorem ao.af2{H H1:ao}{cells:List Value}{e:TypeId}{sh:Bool}{id:Nat}(aM:H.nq cells e sh=some (id,H1)):H1.af=H.af+1:=by
 unfold ao.nq at aM;cases aw:H.uk with
 |none=>rw[aw] at aM;cases aM
 |some p=>
  obtain⟨f,bZ⟩:=p;rw[aw] at aM;have aa:=(ao.n1 aM).2.1;have ab:=(ao.IR aw).2.1;omega
theorem aa0{src dst:TypeId}{s:ByteArray}{v:Value}{H1:ao}(he:vh P H src dst s=some (v,H1)):H1.af=H.af+1:=by
 unfold vh at he;split at he
 ·split at he
  ·rename_i e _ _ _ _;cases ai:Nat.beq (P.cellsOf e) 1 with
   |false=>rw[ai] at he;cases he
   |true=>
    rw[ai,cc] at he;cases aM:H.nq (strCells s.data.toList) e true with
    |none=>rw[aM] at he;cases he
    |some p=>
     obtain⟨id,bZ⟩:=p;rw[aM] at he;have he:some (Value.slice (some ⟨id,0,none⟩) s.data.toList.length cR,bZ)=some (v,H1):=he;simp only[b6,da] at he;obtain⟨_,rfl⟩:=he;exact ao.af2 aM
  ·cases he
 ·cases he
theorem aa1(h:bR P B w0 μ H w){src dst:TypeId}{s:ByteArray}{v:Value}{H1:ao}(he:vh P H src dst s=some (v,H1)):
 ∃v' bb bk,(convert src dst (.string s)).run P w=.ok v' bb/\bR P B w0 bk H1 bb/\Step μ bk H H1/\bj bk v v':=by
 unfold vh at he;split at he
 ·rename_i e aa ab;split at he
  ·rename_i aK;cases ai:Nat.beq (P.cellsOf e) 1 with
   |false=>rw[ai] at he;cases he
   |true=>
    rw[ai,cc] at he;cases aM:H.nq (strCells s.data.toList) e true with
    |none=>rw[aM] at he;cases he
    |some p=>
     obtain⟨id,bZ⟩:=p;rw[aM] at he;have he:some (Value.slice (some ⟨id,0,none⟩) s.data.toList.length cR,bZ)=some (v,H1):=he;simp only[b6,da] at he;obtain⟨rfl,rfl⟩:=he;have HP:=eK ai;have pk:=grownCap_ge w s.size 0 e;have eI:s.size=s.data.toList.length:=by rw[Array.length_toList];rfl
     have hJ:(bytesRow s (grownCap w s.size 0 e)).size=grownCap w s.size 0 e:=by
      unfold bytesRow;have:s.data.size=s.size:=rfl;simp[this];omega
     obtain⟨bl,bF,rfl⟩:=h.drew.Ny (o:=.cells (bytesRow s (grownCap w s.size 0 e)) e ((bytesRow s (grownCap w s.size 0 e)).size,(bytesRow s (grownCap w s.size 0 e)).size+1)) (L:=⟨w.heap.size,grownCap w s.size 0 e,1⟩) aM rfl (fun f=>by
      refine⟨rfl,hJ,HP,?_,(fun q=>by cases q),fun i u jj x y=>?_,⟨fun off an aa ab=>?_,(fun q=>by cases q)⟩⟩
      ·rw[strCells_eq,ig,<-eI];exact pk
      ·rw[strCells_eq,gG] at x;obtain⟨b,kT,rfl⟩:=P2.1 x;have ak:i<s.data.size:=by
        have:=(dv.1 kT).1;simpa using this
       unfold bytesRow at y;rw[Po,aF (by simpa using ak)] at y;rw[Array.getElem?_map,<-Array.getElem?_toList,kT] at y;simp only[C3,b6] at y;subst y;exact .atom _ rfl
      ·rw[hJ] at aa;show off<0;have:off<grownCap w s.size 0 e:=an;omega)
     refine⟨_,_,_,run_bytes_of_string w src dst e s aa ab aK,bl,bF,?_⟩;rw[<-eI];exact .oS H.af 0 s.size _ ⟨w.heap.size,grownCap w s.size 0 e,1⟩ (bH.jB _ _ _) pk (by simp)
  ·cases he
 ·cases he
end
end
end Go.Cre
namespace Go.Cre
noncomputable section
open Go.RowKit
section
variable {P:Program}{B:Nat->Prop}{w0 w:World}{μ:bH}{H H':ao}{T:aX Value}{n:Nat}{tmps:Array Value}
def c'(tmps:Array Value):Operand->Value
 |.tmp t=>tmps.getD t undef
 |.const v=>v
 |.global g=>.pointer (some ⟨g,0,none⟩)
 |.func f=>.func (.func f) #[] #[]
theorem sQ(h:bR P B w0 μ H w)(aN:jK μ T n tmps){x:Operand}{v:Value}(he:a6 T H x=some v):bj μ v (c' tmps x):=by
 cases x with
 |tmp t=>exact aN.2 t v he
 |const c=>
  have he:(bif plain c then some c else none)=some v:=he;cases au:plain c with
  |false=>rw[au] at he;simp at he
  |true=>rw[au] at he;simp at he;subst he;exact oO au
 |global g=>
  have he:NT H g=some v:=he;unfold NT at he;cases ar:Nat.blt g H.bq with
  |false=>rw[ar] at he;simp at he
  |true=>
   rw[ar,cc] at he;have ar:g<H.bq:=hC ar;cases hm:H.mem.get g with
   |none=>rw[hm] at he;simp at he
   |some b=>
    rw[hm] at he;cases b with
    |row c e o f z s=>
     simp only[b6] at he;subst he;obtain⟨L,bB⟩:=h.si g c e o f z s ar hm;have:=bj.ptr (μ:=μ) g 0 L bB;rw[h.own g L bB ar] at this;exact this
    |_=>simp at he
 |func f=>
  have he:some (Value.func (.func f) #[] #[])=some v:=he;injection he with he;subst he
  exact .func _ _ _ _ _ rfl rfl rfl (fun i v v' q=>by simp at q) (fun i v v' q=>by simp at q)
theorem FG(h:bR P B w0 μ H w)(aN:jK μ T n tmps):∀{l:List Operand} {vs:List Value},fQ T H l=some vs->bN μ vs (l.map (c' tmps)):=by
 intro l;induction l with
 |nil=>intro vs he;simp[fQ] at he;subst he;exact bN.nil _
 |cons x l aG=>
  intro vs he;simp only[fQ] at he;cases I:a6 T H x with
  |none=>rw[I] at he;simp at he
  |some v=>
   rw[I] at he;cases ay:fQ T H l with
   |none=>rw[ay] at he;simp at he
   |some r=>rw[ay] at he;simp at he;subst he;exact bN.cons (sQ h aN I) (aG ay)
theorem agZ:∀{l:List Operand} {vs:List Value},fQ T H l=some vs->∀x∈l,∃v,a6 T H x=some v/\v∈vs:=by
 intro l;induction l with
 |nil=>intro vs he x I;simp at I
 |cons y l aG=>
  intro vs he x I;simp only[fQ] at he;cases ah:a6 T H y with
  |none=>rw[ah] at he;simp at he
  |some v=>
   rw[ah] at he;cases ay:fQ T H l with
   |none=>rw[ay] at he;simp at he
   |some r=>
    rw[ay] at he;simp at he;subst he;rcases ft.1 I with rfl|I
    ·exact⟨v,ah,by simp⟩
    ·obtain⟨u,a,b⟩:=aG ay x I;exact⟨u,a,by simp[b]⟩
theorem U1(h:bR P B w0 μ H w)(aN:jK μ T n tmps):∀{l:List (Nat×Operand)} {dx:List (Nat×Value)},kX T H l=some dx->uQ μ dx (l.map fun(i,x)=>(i,c' tmps x)):=by
 intro l;induction l with
 |nil=>intro vs he;simp[kX] at he;subst he;exact⟨rfl,fun i p hK q=>by simp at q⟩
 |cons x l aG=>
  intro vs he;obtain⟨i,x⟩:=x;simp only[kX] at he;cases I:a6 T H x with
  |none=>rw[I] at he;simp at he
  |some v=>
   rw[I] at he;cases ay:kX T H l with
   |none=>rw[ay] at he;simp at he
   |some r=>
    rw[ay] at he;simp at he;subst he;have:=aG ay;refine⟨by simp[this.1],fun j p hK q dt=>?_⟩;cases j with
    |zero=>simp at q dt;subst q;subst dt;exact⟨rfl,sQ h aN I⟩
    |succ j=>exact this.2 j p hK (by simpa using q) (by simpa using dt)
def na(P:Program)(B:Nat->Prop)(w0:World)(call:eS)(aL:gU)(μ:bH)(H:ao)(w:World)(s:Sem Next):cF->Prop
 |.val v H'=>(∃v' bb bk,s.run P w=.ok (.value v') bb/\bR P B w0 bk H' bb/\Step μ bk H H'/\bj bk v v')\/
  (∃f args cD,s.run P w=(callFunc f cD.toArray).run P w/\bN μ args cD/\call f args H=some (.returned v,H'))\/
  (∃l L args cD,μ l=some L/\s.run P w=(Instr.yield L.r cD.toArray).run P w/\bN μ args cD/\aL l args H=some (.returned v,H'))
 |.skip H'=>∃bb,s.run P w=.ok .skip bb/\bR P B w0 μ H' bb/\Step μ μ H H'
 |.gh d=>∃fv cap dY args cD,d={target:=.fn fv cap,args:=args.toArray}/\s.run P w=.ok (.defer {target:=.fn fv dY,args:=cD.toArray}) w/\vT fv=true/\bN μ cap.toList dY.toList/\bN μ args cD
 |.jh chain H'=>(∃v v',chain=[{v:=v,recovered:=false}]/\H'=H/\s.run P w=.halt (.panic v') w/\bj μ v v')\/
  (∃f args cD,s.run P w=(callFunc f cD.toArray).run P w/\bN μ args cD/\call f args H=some (.panicked chain,H'))
 |.Cl=>s.run P w=.ok .recover w
variable {call:eS}{aL:gU}{o:Oper}{S:aQ}
theorem oN{s:Sem Value}{x:Option Value}{r:cF}(h:bR P B w0 μ H w)(al:∀v,x=some v->∃v',s.run P w=.ok v' w/\bj μ v v')(he:g2 x H=some r):
 na P B w0 call aL μ H w (do pure (.value (<-s))) r:=by
 cases x with
 |none=>cases he
 |some v=>
  have he:some (cF.val v H)=some r:=he;injection he with he;subst he
  obtain⟨v',a,b⟩:=al v rfl;exact .inl ⟨v',w,μ,by simp[a],h,Step.refl _ _,b⟩
theorem v3{s:Sem Value}{x:Option (Value×ao)}{r:cF}(al:∀v H',x=some (v,H')->∃v' bb bk,s.run P w=.ok v' bb/\bR P B w0 bk H' bb/\Step μ bk H H'/\bj bk v v')(he:l8 x=some r):
 na P B w0 call aL μ H w (do pure (.value (<-s))) r:=by
 cases x with
 |none=>cases he
 |some p=>
  obtain⟨v,H'⟩:=p;have he:some (cF.val v H')=some r:=he;injection he with he;subst he
  obtain⟨v',bb,bk,a,b,c,d⟩:=al v H' rfl;exact .inl ⟨v',bb,bk,by simp[a],b,c,d⟩
theorem agR{s:Sem Unit}{x:Option ao}{r:cF}(al:∀H',x=some H'->∃bb,s.run P w=.ok () bb/\bR P B w0 μ H' bb/\Step μ μ H H')(he:HE x=some r):
 na P B w0 call aL μ H w (do s;pure .skip) r:=by
 cases x with
 |none=>cases he
 |some H'=>
  have he:some (cF.skip H')=some r:=he;injection he with he;subst he
  obtain⟨bb,a,b,c⟩:=al H' rfl;exact⟨bb,by simp[a],b,c⟩
theorem DQ(h:bR P B w0 μ H w)(aN:jK μ T n tmps)(M0:∀cs b,o.op≠.select cs b){r:cF}(he:gH P T H o=some r):na P B w0 call aL μ H w (execOp (c' tmps) o) r:=by
 unfold gH at he;cases an:fQ T H o.op.operands.toList with
 |none=>rw[an] at he;simp at he
 |some vs=>
  rw[an] at he;simp only at he;cases au:vs.all plain with
  |false=>rw[au] at he;simp at he
  |true=>
   rw[au,cc] at he;have ac0:execOp (rH T H) o=execOp (c' tmps) o:=execOp_congr o M0 fun x I=>by
    obtain⟨v,a,b⟩:=agZ an x (by simpa using I);unfold rH;rw[a];exact(Ja (qK.1 au v b) (sQ h aN a)).symm
   rw[ac0] at he;cases gN:fI P (execOp (c' tmps) o) with
   |none=>rw[gN] at he;simp at he
   |some af=>
    rw[gN] at he;have gK:=RJ gN w;cases af with
    |value v=>
     simp only at he;cases ap:plain v with
     |false=>rw[ap] at he;simp at he
     |true=>
      rw[ap,cc] at he;simp only[b6] at he;subst he;exact .inl ⟨v,w,μ,gK,h,Step.refl _ _,oO ap⟩
    |skip=>
     simp only[b6] at he;subst he;exact⟨w,gK,h,Step.refl _ _⟩
    |_=>simp at he
end
end
end Go.Cre

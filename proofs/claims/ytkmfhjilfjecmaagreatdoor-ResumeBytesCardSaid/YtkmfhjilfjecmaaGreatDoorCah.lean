/- A part of the proof of ResumeBytes. -/
import Derived.Test.YtkmfhjilfjecmaaGreatDoorCag
import Derived.Laws.BytesString
import Derived.Laws.BytesArg
import Derived.Lib.UnsafeStr
import Derived.Laws.IdiomStrings
set_option linter.unusedVariables false
set_option linter.unusedSimpArgs false
namespace Go.Cre
noncomputable section
open Go.RowKit
section
variable {P:Program}{B:Nat->Prop}{w0 w:World}{μ:bY}{H H':aA}
theorem afc{x dR v:Value}{xt asserted:TypeId}{ok:Bool}(U:bB μ x dR)(he:y' P x asserted ok=some v)(w:World):
 ∃v',(Instr.typeAssert dR xt asserted ok).run P w=.ok v' w/\bB μ v v':=by
 unfold y' at he;simp only at he
 have O8:∀v,(bif ok then(match fy P asserted with|some z=>bif plain z then some (Value.tuple #[z,.bool false]) else none|none=>none) else none)=some v->
  ok=true/\∃z,fy P asserted=some z/\plain z=true/\v=.tuple #[z,.bool false]:=by
  intro v ay;cases ok with
  |false=>simp at ay
  |true=>
   simp only[b7] at ay;cases bE:fy P asserted with
   |none=>rw[bE] at ay;simp at ay
   |some z=>
    rw[bE] at ay;simp only at ay;cases au:plain z with
    |false=>rw[au] at ay;simp at ay
    |true=>rw[au] at ay;simp at ay;exact⟨rfl,z,rfl,au,ay.symm⟩
 have HQ:∀z,plain z=true->bB μ (.tuple #[z,.bool false]) (.tuple #[z,.bool false]):=fun z bE=>bB.RP (b0.cons (qG bE) (b0.cons (.atom _ rfl) (b0.nil _)));have WC:∀y iQ,bB μ y iQ->bB μ (bif ok then .tuple #[y,.bool true] else y) (if ok then .tuple #[iQ,.bool true] else iQ):=fun y iQ ai=>by
  cases ok with
  |true=>exact bB.RP (b0.cons ai (b0.cons (.atom _ rfl) (b0.nil _)))
  |false=>exact ai
 cases hu:P.underlying asserted with
 |none=>rw[hu] at he;simp at he
 |some d=>
  rw[hu] at he;cases x with
  |nilIface=>
   rw[U.IC];have ay:(bif ok then(match fy P asserted with|some z=>bif plain z then some (Value.tuple #[z,.bool false]) else none|none=>none) else none)=some v:=by
    cases d<;>exact he
   obtain⟨rfl,z,bE,au,rfl⟩:=O8 v ay;refine⟨_,?_,HQ z au⟩;cases d<;>simp[Instr.typeAssert,e1 hu,yu bE]
  |iface t y=>
   obtain⟨iQ,rfl,ai⟩:=U.xX;by_cases ao:∃want,d=.interface want
   ·obtain⟨want,rfl⟩:=ao;simp only at he;cases ug:P.info? t with
    |none=>rw[ug] at he;simp at he
    |some i=>
     rw[ug] at he;simp only at he;cases xN:Instr.missingMethod want i.methods with
     |none=>
      rw[xN] at he;simp only[cp] at he;subst he;refine⟨_,?_,WC _ _ (.iface t y iQ ai)⟩;simp[Instr.typeAssert,e1 hu,typeInfo,ug,xN]
     |some ID=>
      rw[xN] at he;obtain⟨rfl,z,bE,au,rfl⟩:=O8 v he;refine⟨_,?_,HQ z au⟩;simp[Instr.typeAssert,e1 hu,typeInfo,ug,xN,yu bE]
   ·have oY:(bif Nat.beq t asserted then some (bif ok then .tuple #[y,.bool true] else y) else(bif ok then(match fy P asserted with|some z=>bif plain z then some (Value.tuple #[z,.bool false]) else none|none=>none) else none))=some v:=by
     cases d<;>first|exact he|exact absurd ⟨_,rfl⟩ ao
    cases ap:Nat.beq t asserted with
    |true=>
     rw[ap,b7] at oY;simp only[cp] at oY;subst oY;have:=eO ap;subst this;refine⟨_,?_,WC _ _ ai⟩;cases d<;>first|exact absurd ⟨_,rfl⟩ ao|simp[Instr.typeAssert,e1 hu]
    |false=>
     rw[ap,dT] at oY;obtain⟨rfl,z,bE,au,rfl⟩:=O8 v oY;have ca:t≠asserted:=fun e=>by subst e;simp at ap
     refine⟨_,?_,HQ z au⟩;cases d<;>first|exact absurd ⟨_,rfl⟩ ao|simp[Instr.typeAssert,e1 hu,ca,yu bE]
  |_=>cases d<;>simp at he
theorem aeR{t:TypeId}{x dR y iQ:Value}{r:Bool}(U:bB μ x dR)(ai:bB μ y iQ)(he:vx P t x y=some r)(d:Nat)(w:World):(Op.equalIn (d+1) t dR iQ).run P w=.ok r w:=by
 unfold vx at he;cases hu:P.underlying t with
 |none=>rw[hu] at he;simp at he
 |some r7=>
  rw[hu] at he;cases r7 with
  |pointer elem=>
   cases x with
   |pointer a=>
    cases y with
    |pointer b=>
     cases a with
     |none=>
      rw[U.E1];cases b with
      |none=>rw[ai.E1];simp at he;subst he;simp[Op.equalIn,e1 hu]
      |some b=>obtain⟨id,off,L,rfl,bS,rfl⟩:=ai.pf;simp at he;subst he;simp[Op.equalIn,e1 hu]
     |some a=>
      obtain⟨id,off,L,rfl,bS,rfl⟩:=U.pf;cases b with
      |none=>rw[ai.E1];simp at he;subst he;simp[Op.equalIn,e1 hu]
      |some b=>
       obtain⟨mi,gf,bN,rfl,oW,rfl⟩:=ai.pf;simp only at he;cases hs:ef P elem with
       |none=>rw[hs] at he;simp at he
       |some n=>
        rw[hs] at he;cases n with
        |zero=>simp at he
        |succ n=>
         simp only at he;cases ap:Nat.beq id mi with
         |false=>rw[ap] at he;simp at he
         |true=>
          rw[ap,b7] at he;have:=eO ap;subst this;rw[bS] at oW;injection oW with oW;subst oW
          simp only[cp] at he;subst he;have vN:(({block:=id,off:=off}:Addr)=={block:=id,off:=gf})=(({block:=L.r,off:=off}:Addr)=={block:=L.r,off:=gf}):=by
           rw[qT];simp
          rw[vN];simp[Op.equalIn,e1 hu,kG hs,sameAddr]
    |_=>simp at he
   |_=>simp at he
  |slice elem=>
   cases x with
   |slice a l c=>
    cases y with
    |slice b l' cd=>
     cases a with
     |none=>
      rw[U.uK];cases b with
      |none=>rw[ai.uK];simp at he;subst he;simp[Op.equalIn,e1 hu]
      |some b=>obtain⟨_,_,rfl⟩:=ai.Cx;simp at he;subst he;simp[Op.equalIn,e1 hu]
     |some a=>
      obtain⟨_,_,rfl⟩:=U.Cx;cases b with
      |none=>rw[ai.uK];simp at he;subst he;simp[Op.equalIn,e1 hu]
      |some b=>simp at he
    |_=>simp at he
   |_=>simp at he
  |map k e=>
   cases x with
   |map a=>
    cases y with
    |map b=>
     cases a with
     |none=>
      rw[U.Is];cases b with
      |none=>rw[ai.Is];simp at he;subst he;simp[Op.equalIn,e1 hu]
      |some b=>obtain⟨_,_,rfl⟩:=ai.Ir;simp at he;subst he;simp[Op.equalIn,e1 hu]
     |some a=>
      obtain⟨_,_,rfl⟩:=U.Ir;cases b with
      |none=>rw[ai.Is];simp at he;subst he;simp[Op.equalIn,e1 hu]
      |some b=>simp at he
    |_=>simp at he
   |_=>simp at he
  |func ew nr v=>
   cases x with
   |nilFunc=>
    rw[U.LH];cases y with
    |func fn a b=>
     simp at he;subst he;cases ai with
     |atom _ q=>simp[isAtom] at q
     |func=>simp[Op.equalIn,e1 hu]
     |yield=>simp[Op.equalIn,e1 hu]
    |_=>simp at he
   |func fn a b=>
    cases y with
    |nilFunc=>
     rw[ai.LH];simp at he;subst he;cases U with
     |atom _ q=>simp[isAtom] at q
     |func=>simp[Op.equalIn,e1 hu]
     |yield=>simp[Op.equalIn,e1 hu]
    |_=>simp at he
   |_=>simp at he
  |interface QK=>
   cases x with
   |nilIface=>
    rw[U.IC];cases y with
    |iface t y=>obtain⟨_,rfl,_⟩:=ai.xX;simp at he;subst he;simp[Op.equalIn,e1 hu]
    |_=>simp at he
   |iface t x=>
    obtain⟨_,rfl,_⟩:=U.xX;cases y with
    |nilIface=>rw[ai.IC];simp at he;subst he;simp[Op.equalIn,e1 hu]
    |_=>simp at he
   |_=>simp at he
  |_=>simp at he
theorem Zw{r:Nat}{c:Array Value}{e:TypeId}{f:Nat×Nat}(h:w.heap[r]?=some (.cells c e f)):(shape r).run P w=.ok (some (e,c.size)) w:=by
 simp[shape,Sem.run,World.shape?,h]
theorem aam{r:Nat}{c:Array Value}{e:TypeId}{f:Nat×Nat}(h:w.heap[r]?=some (.cells c e f)):(viewAt r).run P w=.ok none w:=by
 simp[viewAt,Zw h]
theorem acM{r:Nat}{c:Array Value}{e:TypeId}{f:Nat×Nat}(h:w.heap[r]?=some (.cells c e f)):(cellsIn r).run P w=.ok (some c.size) w:=by
 simp[cellsIn,Zw h]
theorem aeN(h:b9 P B w0 μ H w){src dst:TypeId}{x dR v:Value}(U:bB μ x dR)(he:AW P H src dst x=some v):
 ∃v',(convert src dst dR).run P w=.ok v' w/\bB μ v v':=by
 unfold AW at he;cases hu:P.underlying src with
 |none=>rw[hu] at he;simp at he
 |some ds=>
  rw[hu] at he;cases aV:P.underlying dst with
  |none=>rw[aV] at he;simp at he
  |some AV=>
   rw[aV] at he;cases ds with
   |pointer t=>
    cases AV with
    |unsafePointer=>
     cases x with
     |pointer a=>
      cases a with
      |none=>simp at he
      |some a=>
       obtain⟨id,off,L,rfl,bS,rfl⟩:=U.pf;simp only at he;cases hs:ef P t with
       |none=>rw[hs] at he;simp at he
       |some n=>
        rw[hs] at he;cases n with
        |zero=>simp at he
        |succ n=>
         cases hm:H.mem.get id with
         |none=>rw[hm] at he;simp at he
         |some b=>
          rw[hm] at he;cases b with
          |row cells el opn bI eA sh=>
           simp only at he;cases ap:Nat.blt off cells.length with
           |false=>rw[ap] at he;simp at he
           |true=>
            rw[ap,b7] at he;simp only[cp] at he;subst he;have ap:off<cells.length:=hV ap;obtain⟨c,f,g1,g2,g3,g4,g5,g6,g7⟩:=h.row bS hm;have cV:¬(c.size<=off):=by omega
            refine⟨_,?_,U⟩;simp[convert,e1 hu,e1 aV,Conv.unsafePointer,Conv.seenAt,aam g1,acM g1,cV,kG hs]
          |_=>simp at he
     |_=>simp at he
    |_=>simp at he
   |unsafePointer=>
    cases AV with
    |pointer u=>
     cases x with
     |pointer a=>
      cases a with
      |none=>simp at he
      |some a=>
       obtain⟨id,off,L,rfl,bS,rfl⟩:=U.pf;simp only at he;cases hs:ef P u with
       |none=>rw[hs] at he;simp at he
       |some n=>
        rw[hs] at he;cases n with
        |zero=>simp at he
        |succ n=>
         cases hm:H.mem.get id with
         |none=>rw[hm] at he;simp at he
         |some b=>
          rw[hm] at he;cases b with
          |row cells el opn bI eA sh=>
           cases opn with
           |true=>simp at he
           |false=>
            simp only at he;cases ap:liesAt P P.depth el (cells.length / P.cellsOf el) off u 1 with
            |false=>rw[ap] at he;simp at he
            |true=>
             rw[ap,b7] at he;simp only[cp] at he;subst he;obtain⟨c,f,g1,g2,g3,g4,g5,g6,g7⟩:=h.row bS hm;have lf:c.size=cells.length:=by rw[g2,g5 rfl]
             have P':w.shape? L.r=some (el,c.size):=by simp[World.shape?,g1]
             refine⟨_,?_,U⟩;simp[convert,e1 hu,e1 aV,Conv.unsafePointer,Conv.seenAt,aam g1,kG hs,variablesAt,P',lf,ap]
          |_=>simp at he
     |_=>simp at he
    |_=>simp at he
   |_=>cases AV<;>simp at he
end
end
end Go.Cre
namespace Go.Cre
noncomputable section
open Go.RowKit
section
variable {P:Program}{B:Nat->Prop}{w0 w:World}{μ:bY}{H H':aA}
theorem TM:∀{l:List Value} {bs:List UInt8},nF l=some bs->l=bs.map (fun b=>Value.int .u8 (b.toNat:Int)):=by
 intro l;induction l with
 |nil=>intro bs h;simp[nF] at h;subst h;rfl
 |cons v l aI=>
  intro bs h;cases v with
  |int k n=>
   cases k with
   |u8=>
    cases n with
    |ofNat n=>
     simp only[nF] at h;cases cV:Nat.blt n 256 with
     |false=>rw[cV] at h;simp at h
     |true=>
      rw[cV,b7] at h;have cV:n<256:=hV cV;cases ap:nF l with
      |none=>rw[ap] at h;simp at h
      |some r=>
       rw[ap] at h;simp only[cp] at h;subst h;rw[nz,<-aI ap];congr 2
       have:(UInt8.ofNat n).toNat=n:=by simp;omega
       rw[this];rfl
    |negSucc n=>simp[nF] at h
   |_=>simp[nF] at h
  |_=>simp[nF] at h
theorem b0.bytes{bs:List UInt8}{l':List Value}(h:b0 μ (bs.map fun b=>Value.int .u8 (b.toNat:Int)) l'):l'=bs.map fun b=>Value.int .u8 (b.toNat:Int):=by
 induction bs generalizing l' with
 |nil=>exact h.lm
 |cons b bs aI=>
  obtain⟨v',t,rfl,aa,ae⟩:=h.jP;rw[aa.qx,aI ae];rfl
theorem aku{v:Value}(h:isByte v=true):∃n,v=.int .u8 (.ofNat n)/\Nat.blt n 256=true:=by
 cases v with
 |int k i=>
  cases k with
  |u8=>cases i with
   |ofNat n=>exact⟨n,rfl,h⟩
   |negSucc n=>cases h
  |_=>cases h
 |_=>cases h
theorem acb:∀(c r:List Value),(∀v∈c,isByte v=true)->nF c=some (Mo c.length (c++r)):=by
 intro c;induction c with
 |nil=>intro r _;cases r<;>rfl
 |cons v c aI=>
  intro r h;obtain⟨n,rfl,aP⟩:=aku (h v (by simp));have ao:=aI r fun u hu=>h u (by simp[hu]);simp only[nF,aP,b7,ao];rfl
theorem adO(k:Nat)(l:List Value):pu (k+1) l=Option.rec (motive:=fun _=>Option (List Value)) none (pu k) (pu k l):=rfl
theorem adN:∀{k:Nat} {l r:List Value},pu k l=some r->∃c,l=c++r/\c.length=2 ^ k/\∀v∈c,isByte v=true:=by
 intro k;induction k with
 |zero=>
  intro l r h;cases l with
  |nil=>cases h
  |cons v l=>
   have h:Bool.rec (motive:=fun _=>Option (List Value)) none (some l) (isByte v)=some r:=h;cases ap:isByte v with
   |false=>rw[ap] at h;cases h
   |true=>rw[ap] at h;injection h with h;subst h;exact⟨[v],rfl,rfl,fun u hu=>by simp at hu;rw[hu];exact ap⟩
 |succ k aI=>
  intro l r h;rw[adO] at h;cases aa:pu k l with
  |none=>rw[aa] at h;cases h
  |some m=>
   rw[aa] at h;have h:pu k m=some r:=h;obtain⟨c1,rfl,bk,cG⟩:=aI aa;obtain⟨c2,rfl,cu,jr⟩:=aI h;refine⟨c1++c2,by simp,by simp[bk,cu,C2];omega,fun v ay=>?_⟩;rcases ko.1 ay with q|q
   ·exact cG v q
   ·exact jr v q
theorem adL(k n:Nat)(l:List Value):tG (k+1) n l=Bool.rec (motive:=fun _=>Bool) (Option.rec (motive:=fun _=>Bool) false (fun r=>tG k (Nat.sub n (Nat.pow 2 k)) r) (pu k l)) (tG k n l) (Nat.blt n (Nat.pow 2 k)):=rfl
theorem adK:∀{k n:Nat} {l:List Value},tG k n l=true->∃c r,l=c++r/\c.length=n/\∀v∈c,isByte v=true:=by
 intro k;induction k with
 |zero=>
  intro n l h;have h:Nat.beq n 0=true:=h;exact⟨[],l,rfl,(eO h).symm,fun v ay=>by cases ay⟩
 |succ k aI=>
  intro n l h;rw[adL] at h;cases ap:Nat.blt n (Nat.pow 2 k) with
  |true=>rw[ap] at h;exact aI h
  |false=>
   rw[ap] at h;have lM:2 ^ k<=n:=by
    rcases ji n (2 ^ k) with q|q
    ·have:Nat.blt n (Nat.pow 2 k)=true:=j8 q;rw[ap] at this;cases this
    ·exact q
   cases aa:pu k l with
   |none=>rw[aa] at h;cases h
   |some m=>
    rw[aa] at h;have h:tG k (n -2 ^ k) m=true:=h;obtain⟨c1,rfl,bk,cG⟩:=adN aa;obtain⟨c2,r,rfl,cu,jr⟩:=aI h;have cu:c2.length=n -2 ^ k:=cu;refine⟨c1++c2,r,by simp,by rw[dP,bk,cu];omega,fun v ay=>?_⟩;rcases ko.1 ay with q|q
    ·exact cG v q
    ·exact jr v q
theorem aoT{α:Type}:∀{c:List α} (r:List α),takeN c.length (c++r)=some c:=by
 intro c;induction c with
 |nil=>intro r;rfl
 |cons a c aI=>intro r;simp only[jh,List.cons_append,takeN];rw[aI r]
theorem afa{src dst:TypeId}{x v:Value}(he:Kt P H src dst x=some v):A0 P H src dst x=some v:=by
 unfold Kt at he;unfold A0;cases aa:P.underlying src with
 |none=>rw[aa] at he;cases he
 |some hh=>
  rw[aa] at he;cases ae:P.underlying dst with
  |none=>rw[ae] at he;cases hh<;>cases he
  |some r7=>
   rw[ae] at he;cases hh with
   |slice e=>
    cases r7 with
    |string=>
     cases x with
     |slice b len cap=>
      cases b with
      |none=>cases he
      |some a=>
       simp only at he ⊢;cases bb:P.underlying e with
       |none=>rw[bb] at he;cases he
       |some ZP=>
        rw[bb] at he;cases a7:a.spot with
        |some s=>rw[a7] at he;cases ZP<;>first|(cases he;done)|(rename_i k;cases k<;>cases he)
        |none=>
         rw[a7] at he;cases ZP with
         |int k=>
          cases k with
          |u8=>
           cases b8:H.mem.get a.block with
           |none=>rw[b8] at he;cases he
           |some yT=>
            rw[b8] at he;cases yT with
            |row cells el opn bI eA sh=>
             simp only at he ⊢;unfold Mu at he;cases aV:tG 21 len (nJ a.off cells) with
             |false=>rw[aV] at he;cases he
             |true=>
              rw[aV,b7] at he;obtain⟨c,r,aL,bk,cG⟩:=adK aV;have aD:js H 1 len (.slice (some a) len 0)=some c:=by
               unfold js;simp only[a7];cases len with
               |zero=>simp only;rw[q5.1 bk]
               |succ m=>
                simp only[b8,yE];rw[aL,<-bk];exact aoT r
              simp only[aD,acb c r cG,zI,a7,lY,dT];rw[bk,<-aL];exact he
            |_=>cases he
          |_=>cases he
         |_=>cases he
     |_=>cases he
    |_=>cases x<;>first|(cases he;done)|(rename_i b _ _;cases b<;>cases he)
   |_=>cases he
theorem ae'{src dst:TypeId}{x v:Value}(he:DP P H src dst x=some v):A0 P H src dst x=some v:=by
 unfold DP at he;cases av:Lv x with
 |false=>rw[av] at he;exact he
 |true=>rw[av] at he;exact afa he
theorem afb(h:b9 P B w0 μ H w){src dst:TypeId}{x dR v:Value}(U:bB μ x dR)(he:A0 P H src dst x=some v):
 ∃v',(convert src dst dR).run P w=.ok v' w/\bB μ v v':=by
 unfold A0 at he;cases hu:P.underlying src with
 |none=>rw[hu] at he;simp at he
 |some ds=>
  rw[hu] at he;cases aV:P.underlying dst with
  |none=>rw[aV] at he;simp at he
  |some AV=>
   rw[aV] at he;cases ds with
   |slice e=>
    cases AV with
    |string=>
     cases x with
     |slice a len cap=>
      cases a with
      |none=>
       rw[U.uK];simp only at he;cases oZ:P.underlying e with
       |none=>rw[oZ] at he;simp at he
       |some NO=>
        rw[oZ] at he;cases NO with
        |int k=>
         cases k with
         |u8=>
          simp only[cp] at he;subst he;refine⟨.string .empty,?_,.atom _ rfl⟩;rw[run_convert_bytes_string w src dst e _ _ _ hu oZ aV];simp[Conv.bytesToString]
         |_=>simp at he
        |_=>simp at he
      |some a=>
       have om:a.spot=none:=by
        cases q:a.spot with
        |none=>rfl
        |some _=>simp[zI,q] at he
       obtain⟨id,off,L,gf,eh,rfl,bS,rfl,ar,_,_⟩:=U.yl (.inl om);simp only[zI,lY,dT] at he;cases oZ:P.underlying e with
       |none=>rw[oZ] at he;simp at he
       |some NO=>
        rw[oZ] at he;cases NO with
        |int k=>
         cases k with
         |u8=>
          simp only at he;cases aD:js H 1 len (.slice (some ⟨id,off,none⟩) len 0) with
          |none=>rw[aD] at he;simp at he
          |some cells=>
           rw[aD] at he;simp only at he;cases ap:nF cells with
           |none=>rw[ap] at he;simp at he
           |some bs=>
            rw[ap] at he;simp only[cp] at he;subst he;have KQ:=TM ap;have ajU:bB μ (.slice (some ⟨id,off,none⟩) len 0) (.slice (some ⟨L.r,off,none⟩) len 0):=.nU id off len 0 L bS (by decide);obtain⟨l',g1,g2⟩:=Kq h ajU (m:=len) rfl (cW _) aD;rw[KQ] at g1;have c6:=g1.bytes;subst c6;have Eg:(loadCells ⟨L.r,gf,none⟩ len).run P w=.ok ((bs.map fun b=>(b.toNat:Int)).map (Value.int .u8)).toArray w:=by
             by_cases bw:0<len
             ·rw[ar bw];have:=g2 w.drawn;simp only[Builtin.firstCells,yE] at this;rw[this];simp
             ·have lO:len=0:=by omega
              subst lO;have ua:bs.map (fun b=>Value.int .u8 (b.toNat:Int))=[]:=by
               rw[<-KQ];simp[js] at aD;exact aD
              have:bs=[]:=by simpa using ua
              subst this;simp[loadCells,loadCellsFrom]
            refine⟨.string ⟨bs.toArray⟩,?_,.atom _ rfl⟩;rw[run_convert_bytes_string w src dst e _ _ _ hu oZ aV,run_bytesToString w ⟨L.r,gf,none⟩ len eh _ Eg,foldl_push_bytes];congr 2
            have hid:((fun n:Int=>UInt8.ofNat n.toNat) ∘ fun b:UInt8=>(b.toNat:Int))=_root_.id:=by funext b;simp
            apply ByteArray.ext
            simp[hid]
         |_=>simp at he
        |_=>simp at he
     |_=>simp at he
    |_=>simp at he
   |_=>cases AV<;>simp at he
theorem afC{r n:Nat}{c:Array Value}{e:TypeId}{f:Nat×Nat}(h:w.heap[r]?=some (.cells c e f))(aP:n≠0):
 w.freeze ⟨r,0,none⟩ n={w with heap:=w.heap.setIfInBounds r (.cells c e (if f.1==f.2 then(0,0+n) else(min f.1 0,max f.2 (0+n))))}:=by
 have aw:r<w.heap.size:=by
  rcases ji r w.heap.size with dZ|dZ
  ·exact dZ
  ·rw[tg dZ] at h;cases h
 unfold World.freeze;rw[an aP];congr 1
 apply Fu
 intro i;rw[aaN,An];by_cases ao:r=i
 ·subst ao;rw[aE rfl,aE rfl,h,aE aw];rfl
 ·simp[ao]
theorem afd(h:b9 P B w0 μ H w){pe it eS:TypeId}{p hO n nR v:Value}(au:bB μ p hO)(aP:bB μ n nR)(he:GR P H pe p n=some (v,H')):
 ∃v' br,(Builtin.unsafeString_ #[pe,it] eS #[hO,nR]).run P w=.ok v' br/\b9 P B w0 μ H' br/\Step μ μ H H'/\bB μ v v':=by
 unfold GR at he;cases p with
 |pointer a=>
  cases n with
  |int k i=>
   cases k with
   |i64=>
    obtain rfl:=aP.qx;cases i with
    |ofNat m=>
     cases m with
     |zero=>
      cases a with
      |none=>
       rw[au.E1];simp only[cp,dB] at he;obtain⟨rfl,rfl⟩:=he;exact⟨_,w,Lib.run_unsafeString_none w pe it eS none,h,Step.refl _ _,.atom _ rfl⟩
      |some a=>
       obtain⟨id,off,L,rfl,bS,rfl⟩:=au.pf;simp only[cp,dB] at he;obtain⟨rfl,rfl⟩:=he;exact⟨_,w,Lib.run_unsafeString_none w pe it eS _,h,Step.refl _ _,.atom _ rfl⟩
     |succ m=>
      cases a with
      |none=>exact absurd (show none=some (v,H') from he) (by simp)
      |some a=>
       obtain⟨id,off,L,rfl,bS,rfl⟩:=au.pf;simp only at he;cases hu:P.underlying pe with
       |none=>rw[hu] at he;simp at he
       |some d=>
        rw[hu] at he;cases d with
        |pointer u=>
         cases hm:H.mem.get id with
         |none=>rw[hm] at he;simp at he
         |some b=>
          rw[hm] at he;cases b with
          |row cells e opn bI eA sh=>
           simp only at he;cases aC:(Nat.beq e u&&Nat.beq (P.cellsOf e) 1&&Nat.ble (m+1) 1000000&&!Nat.blt id H.bW&&Nat.beq off 0&&!sh) with
           |false=>rw[aC] at he;simp at he
           |true=>
            rw[aC] at he;simp only[lY,dT] at he;simp only[fS,qU] at aC;obtain⟨⟨⟨⟨⟨bb,a7⟩,b8⟩,fl⟩,jb⟩,qH⟩:=aC;have bb:=eO bb;subst bb;have a7:=eO a7;have b8:=hV b8;have fl:=Tz fl;have jb:=eO jb;subst jb;cases aB:takeN (m+1) cells with
            |none=>rw[aB] at he;simp at he
            |some l=>
             rw[aB] at he;simp only at he;cases ap:nF l with
             |none=>rw[ap] at he;simp at he
             |some bs=>
              rw[ap] at he;simp only at he;cases Qg:H.upd id (.row cells e opn bI (bif sh then sD else Nat.max eA (m+1)) sh) with
              |none=>rw[Qg] at he;simp at he
              |some H0=>
               rw[Qg] at he;simp only at he;cases Pr:(bif opn then wb H0 id bI else some H0) with
               |none=>rw[Pr] at he;simp at he
               |some H1=>
               rw[Pr] at he;simp only[cp,dB] at he;obtain⟨rfl,rfl⟩:=he;obtain⟨c,f,g1,g2,g3,g4,g5,g6,g7⟩:=h.row bS hm;obtain⟨t1,t2,t3⟩:=Fh aB;have hle:=TM ap;have tX:bs.length=m+1:=by have:=cD List.length hle;simp at this;omega
               have c6:b0 μ l ((c.toList.take cells.length).take (m+1)):=by rw[t1];exact g6.take (m+1)
               rw[hle] at c6;have ahF:=c6.bytes;have P':w.shape? L.r=some (e,c.size):=by simp[World.shape?,g1]
               have iB:=Lib.run_unsafeString_row (P:=P) w pe it eS e hu a7 L.r c.size P' bs (by intro q;rw[q] at tX;simp at tX) (by omega) (by omega) (fun j x a'=>by
                rw[Addr.rc,lC,cell_of_row g1];have:((c.toList.take cells.length).take (m+1))[j]?=some (Value.int .u8 (x.toNat:Int)):=by rw[ahF,oF,a'];rfl
                rw[kK] at this;split at this
                ·rw[kK] at this;split at this
                 ·simpa using this
                 ·cases this
                ·cases this)
               rw[tX] at iB;have mc:=afC (n:=m+1) g1 (by omega);rw[mc] at iB;have ap:km P μ L (.row cells e opn bI (bif sh then sD else Nat.max eA (m+1)) sh) (.cells c e (if f.1==f.2 then(0,0+(m+1)) else(min f.1 0,max f.2 (0+(m+1))))):=by
                refine⟨rfl,g2,g3,g4,g5,fun i v v' q du=>g6.2 i v v' q ?_,?_⟩
                ·have ao:=(dY.1 q).1;rw[kK,aE ao];simpa using du
                ·cases sh with
                 |true=>cases qH
                 |false=>
                  simp only[dT];have PH:m+1<=Nat.max eA (m+1):=Nat.le_max_right _ _;have atp:eA<=Nat.max eA (m+1):=Nat.le_max_left _ _;rcases g7.2 rfl with q|q
                  ·rw[aE (by simpa using q)];exact⟨fun off _ _ ae=>by simp at ae;omega,fun _=>.inr (by simpa using PH)⟩
                  ·by_cases pB:f.1=f.2
                   ·rw[aE (by simpa using pB)];exact⟨fun off _ _ ae=>by simp at ae;omega,fun _=>.inr (by simpa using PH)⟩
                   ·rw[an (by simpa using pB)];have:max f.2 (0+(m+1))<=Nat.max eA (m+1):=Nat.max_le.2 ⟨by omega,by omega⟩;exact⟨fun off _ _ ae=>by simp only at ae;omega,fun _=>.inr this⟩
               obtain⟨cO,ed⟩:=h.aay bS fl hm rfl Qg Pr ap;exact⟨_,_,iB,cO,ed,.atom _ rfl⟩
          |_=>simp at he
        |_=>simp at he
    |negSucc m=>cases a<;>simp at he
   |_=>cases a<;>simp at he
  |_=>cases a<;>simp at he
 |_=>simp at he
theorem strCells_eq(l:List UInt8):strCells l=l.map fun b=>Value.int .u8 b.toNat:=by
 induction l with
 |nil=>rfl
 |cons b l aI=>show Value.int .u8 (.ofNat b.toNat)::strCells l=_;rw[aI];rfl
theorem aA.alt{H H1:aA}{cells:List Value}{e:TypeId}{sh:Bool}{id:Nat}(aP:H.nl cells e sh=some (id,H1)):H1.ak=H.ak+1:=by
 unfold aA.nl at aP;cases aD:H.wi with
 |none=>rw[aD] at aP;cases aP
 |some p=>
  obtain⟨f,cv⟩:=p;rw[aD] at aP;have aa:=(aA.pM aP).2.1;have ae:=(aA.LG aD).2.1;omega
theorem ae8{src dst:TypeId}{s:ByteArray}{v:Value}{H1:aA}(he:sC P H src dst s=some (v,H1)):H1.ak=H.ak+1:=by
 unfold sC at he;split at he
 ·split at he
  ·rename_i e _ _ _ _;cases ap:Nat.beq (P.cellsOf e) 1 with
   |false=>rw[ap] at he;cases he
   |true=>
    rw[ap,b7] at he;cases aP:H.nl (strCells s.data.toList) e true with
    |none=>rw[aP] at he;cases he
    |some p=>
     obtain⟨id,cv⟩:=p;rw[aP] at he;have he:some (Value.slice (some ⟨id,0,none⟩) s.data.toList.length cZ,cv)=some (v,H1):=he;simp only[cp,dB] at he;obtain⟨_,rfl⟩:=he;exact aA.alt aP
  ·cases he
 ·cases he
theorem ae9(h:b9 P B w0 μ H w){src dst:TypeId}{s:ByteArray}{v:Value}{H1:aA}(he:sC P H src dst s=some (v,H1)):
 ∃v' br bD,(convert src dst (.string s)).run P w=.ok v' br/\b9 P B w0 bD H1 br/\Step μ bD H H1/\bB bD v v':=by
 unfold sC at he;split at he
 ·rename_i e aa ae;split at he
  ·rename_i aF;cases ap:Nat.beq (P.cellsOf e) 1 with
   |false=>rw[ap] at he;cases he
   |true=>
    rw[ap,b7] at he;cases aP:H.nl (strCells s.data.toList) e true with
    |none=>rw[aP] at he;cases he
    |some p=>
     obtain⟨id,cv⟩:=p;rw[aP] at he;have he:some (Value.slice (some ⟨id,0,none⟩) s.data.toList.length cZ,cv)=some (v,H1):=he;simp only[cp,dB] at he;obtain⟨rfl,rfl⟩:=he;have KQ:=eO ap;have lM:=grownCap_ge w s.size 0 e;have eV:s.size=s.data.toList.length:=by rw[Array.length_toList];rfl
     have fV:(bytesRow s (grownCap w s.size 0 e)).size=grownCap w s.size 0 e:=by
      unfold bytesRow;have:s.data.size=s.size:=rfl;simp[this];omega
     obtain⟨bm,a2,rfl⟩:=h.drew.QG (o:=.cells (bytesRow s (grownCap w s.size 0 e)) e ((bytesRow s (grownCap w s.size 0 e)).size,(bytesRow s (grownCap w s.size 0 e)).size+1)) (L:=⟨w.heap.size,grownCap w s.size 0 e,1⟩) aP rfl (fun f=>by
      refine⟨rfl,fV,KQ,?_,(fun q=>by cases q),fun i u im x y=>?_,⟨fun off ar aa ae=>?_,(fun q=>by cases q)⟩⟩
      ·rw[strCells_eq,lB,<-eV];exact lM
      ·rw[strCells_eq,oF] at x;obtain⟨b,kP,rfl⟩:=abb.1 x;have ao:i<s.data.size:=by
        have:=(dY.1 kP).1;simpa using this
       unfold bytesRow at y;rw[Si,aE (by simpa using ao)] at y;rw[Array.getElem?_map,<-Array.getElem?_toList,kP] at y;simp only[FN,cp] at y;subst y;exact .atom _ rfl
      ·rw[fV] at aa;show off<0;have:off<grownCap w s.size 0 e:=ar;omega)
     refine⟨_,_,_,run_bytes_of_string w src dst e s aa ae aF,bm,a2,?_⟩;rw[<-eV];exact .pW H.ak 0 s.size _ ⟨w.heap.size,grownCap w s.size 0 e,1⟩ (bY.kW _ _ _) lM (by simp)
  ·cases he
 ·cases he
end
end
end Go.Cre
namespace Go.Cre
noncomputable section
open Go.RowKit
section
variable {P:Program}{B:Nat->Prop}{w0 w:World}{μ:bY}{H H':aA}{T:bg Value}{n:Nat}{tmps:Array Value}
def dz(tmps:Array Value):Operand->Value
 |.tmp t=>tmps.getD t undef
 |.const v=>v
 |.global g=>.pointer (some ⟨g,0,none⟩)
 |.func f=>.func (.func f) #[] #[]
theorem wo(h:b9 P B w0 μ H w)(aB:lD μ T n tmps){x:Operand}{v:Value}(he:bj T H x=some v):bB μ v (dz tmps x):=by
 cases x with
 |tmp t=>exact aB.2 t v he
 |const c=>
  have he:(bif plain c then some c else none)=some v:=he;cases au:plain c with
  |false=>rw[au] at he;simp at he
  |true=>rw[au] at he;simp at he;subst he;exact qG au
 |global g=>
  have he:Q7 H g=some v:=he;unfold Q7 at he;cases aq:Nat.blt g H.bW with
  |false=>rw[aq] at he;simp at he
  |true=>
   rw[aq,b7] at he;have aq:g<H.bW:=hV aq;cases hm:H.mem.get g with
   |none=>rw[hm] at he;simp at he
   |some b=>
    rw[hm] at he;cases b with
    |row c e o f z s=>
     simp only[cp] at he;subst he;obtain⟨L,bS⟩:=h.tO g c e o f z s aq hm;have:=bB.ptr (μ:=μ) g 0 L bS;rw[h.own g L bS aq] at this;exact this
    |_=>simp at he
 |func f=>
  have he:some (Value.func (.func f) #[] #[])=some v:=he;injection he with he;subst he
  exact .func _ _ _ _ _ rfl rfl rfl (fun i v v' q=>by simp at q) (fun i v v' q=>by simp at q)
theorem IS(h:b9 P B w0 μ H w)(aB:lD μ T n tmps):∀{l:List Operand} {vs:List Value},eI T H l=some vs->b0 μ vs (l.map (dz tmps)):=by
 intro l;induction l with
 |nil=>intro vs he;simp[eI] at he;subst he;exact b0.nil _
 |cons x l aI=>
  intro vs he;simp only[eI] at he;cases U:bj T H x with
  |none=>rw[U] at he;simp at he
  |some v=>
   rw[U] at he;cases av:eI T H l with
   |none=>rw[av] at he;simp at he
   |some r=>rw[av] at he;simp at he;subst he;exact b0.cons (wo h aB U) (aI av)
theorem ami:∀{l:List Operand} {vs:List Value},eI T H l=some vs->∀x∈l,∃v,bj T H x=some v/\v∈vs:=by
 intro l;induction l with
 |nil=>intro vs he x U;simp at U
 |cons y l aI=>
  intro vs he x U;simp only[eI] at he;cases ai:bj T H y with
  |none=>rw[ai] at he;simp at he
  |some v=>
   rw[ai] at he;cases av:eI T H l with
   |none=>rw[av] at he;simp at he
   |some r=>
    rw[av] at he;simp at he;subst he;rcases e3.1 U with rfl|U
    ·exact⟨v,ai,by simp⟩
    ·obtain⟨u,a,b⟩:=aI av x U;exact⟨u,a,by simp[b]⟩
theorem Yq(h:b9 P B w0 μ H w)(aB:lD μ T n tmps):∀{l:List (Nat×Operand)} {ew:List (Nat×Value)},ls T H l=some ew->wO μ ew (l.map fun(i,x)=>(i,dz tmps x)):=by
 intro l;induction l with
 |nil=>intro vs he;simp[ls] at he;subst he;exact⟨rfl,fun i p hO q=>by simp at q⟩
 |cons x l aI=>
  intro vs he;obtain⟨i,x⟩:=x;simp only[ls] at he;cases U:bj T H x with
  |none=>rw[U] at he;simp at he
  |some v=>
   rw[U] at he;cases av:ls T H l with
   |none=>rw[av] at he;simp at he
   |some r=>
    rw[av] at he;simp at he;subst he;have:=aI av;refine⟨by simp[this.1],fun j p hO q du=>?_⟩;cases j with
    |zero=>simp at q du;subst q;subst du;exact⟨rfl,wo h aB U⟩
    |succ j=>exact this.2 j p hO (by simpa using q) (by simpa using du)
def nZ(P:Program)(B:Nat->Prop)(w0:World)(call:eH)(aR:gR)(μ:bY)(H:aA)(w:World)(s:Sem Next):cL->Prop
 |.val v H'=>(∃v' br bD,s.run P w=.ok (.value v') br/\b9 P B w0 bD H' br/\Step μ bD H H'/\bB bD v v')\/
  (∃f args cz,s.run P w=(callFunc f cz.toArray).run P w/\b0 μ args cz/\call f args H=some (.returned v,H'))\/
  (∃l L args cz,μ l=some L/\s.run P w=(Instr.yield L.r cz.toArray).run P w/\b0 μ args cz/\aR l args H=some (.returned v,H'))
 |.skip H'=>∃br,s.run P w=.ok .skip br/\b9 P B w0 μ H' br/\Step μ μ H H'
 |.iW d=>∃fv cap eh args cz,d={target:=.fn fv cap,args:=args.toArray}/\s.run P w=.ok (.defer {target:=.fn fv eh,args:=cz.toArray}) w/\x9 fv=true/\b0 μ cap.toList eh.toList/\b0 μ args cz
 |.iO chain H'=>(∃v v',chain=[{v:=v,recovered:=false}]/\H'=H/\s.run P w=.halt (.panic v') w/\bB μ v v')\/
  (∃f args cz,s.run P w=(callFunc f cz.toArray).run P w/\b0 μ args cz/\call f args H=some (.panicked chain,H'))
 |.Cp=>s.run P w=.ok .recover w
variable {call:eH}{aR:gR}{o:Oper}{S:bh}
theorem pQ{s:Sem Value}{x:Option Value}{r:cL}(h:b9 P B w0 μ H w)(hs:∀v,x=some v->∃v',s.run P w=.ok v' w/\bB μ v v')(he:fZ x H=some r):
 nZ P B w0 call aR μ H w (do pure (.value (<-s))) r:=by
 cases x with
 |none=>cases he
 |some v=>
  have he:some (cL.val v H)=some r:=he;injection he with he;subst he
  obtain⟨v',a,b⟩:=hs v rfl;exact .inl ⟨v',w,μ,by simp[a],h,Step.refl _ _,b⟩
theorem zO{s:Sem Value}{x:Option (Value×aA)}{r:cL}(hs:∀v H',x=some (v,H')->∃v' br bD,s.run P w=.ok v' br/\b9 P B w0 bD H' br/\Step μ bD H H'/\bB bD v v')(he:mq x=some r):
 nZ P B w0 call aR μ H w (do pure (.value (<-s))) r:=by
 cases x with
 |none=>cases he
 |some p=>
  obtain⟨v,H'⟩:=p;have he:some (cL.val v H')=some r:=he;injection he with he;subst he
  obtain⟨v',br,bD,a,b,c,d⟩:=hs v H' rfl;exact .inl ⟨v',br,bD,by simp[a],b,c,d⟩
theorem ama{s:Sem Unit}{x:Option aA}{r:cL}(hs:∀H',x=some H'->∃br,s.run P w=.ok () br/\b9 P B w0 μ H' br/\Step μ μ H H')(he:Hf x=some r):
 nZ P B w0 call aR μ H w (do s;pure .skip) r:=by
 cases x with
 |none=>cases he
 |some H'=>
  have he:some (cL.skip H')=some r:=he;injection he with he;subst he
  obtain⟨br,a,b,c⟩:=hs H' rfl;exact⟨br,by simp[a],b,c⟩
theorem GQ(h:b9 P B w0 μ H w)(aB:lD μ T n tmps)(P9:∀cs b,o.op≠.select cs b){r:cL}(he:gm P T H o=some r):nZ P B w0 call aR μ H w (execOp (dz tmps) o) r:=by
 unfold gm at he;cases ar:eI T H o.op.operands.toList with
 |none=>rw[ar] at he;simp at he
 |some vs=>
  rw[ar] at he;simp only at he;cases au:vs.all plain with
  |false=>rw[au] at he;simp at he
  |true=>
   rw[au,b7] at he;have ahK:execOp (pR T H) o=execOp (dz tmps) o:=execOp_congr o P9 fun x U=>by
    obtain⟨v,a,b⟩:=ami ar x (by simpa using U);unfold pR;rw[a];exact(Cj (tk.1 au v b) (wo h aB a)).symm
   rw[ahK] at he;cases h0:eY P (execOp (dz tmps) o) with
   |none=>rw[h0] at he;simp at he
   |some ak=>
    rw[h0] at he;have iB:=UU h0 w;cases ak with
    |value v=>
     simp only at he;cases ay:plain v with
     |false=>rw[ay] at he;simp at he
     |true=>
      rw[ay,b7] at he;simp only[cp] at he;subst he;exact .inl ⟨v,w,μ,iB,h,Step.refl _ _,qG ay⟩
    |skip=>
     simp only[cp] at he;subst he;exact⟨w,iB,h,Step.refl _ _⟩
    |_=>simp at he
end
end
end Go.Cre

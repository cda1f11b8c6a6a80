/- A part of the proof of TableMetric. -/
import Derived.Test.YtmmfodofkbmfnaaGreatDoorCah
import Derived.Laws.BytesString
import Derived.Laws.BytesArg
import Derived.Lib.UnsafeStr
import Derived.Laws.IdiomStrings
set_option linter.unusedVariables false
set_option linter.unusedSimpArgs false
namespace Go.Cre
noncomputable section
open Go.RowKit
section
variable {P:Program}{B:Nat->Prop}{w0 w:World}{μ:bm}{H H':ah}
theorem RV{x dh v:Value}{xt asserted:TypeId}{ok:Bool}(j:a3 μ x dh)(he:D6 P x asserted ok=some v)(w:World):
 ∃v',(Instr.typeAssert dh xt asserted ok).run P w=.ok v' w/\a3 μ v v':=by
 unfold D6 at he;simp only at he
 have ET:∀v,(bif ok then(match fw P asserted with|some z=>bif plain z then some (Value.tuple #[z,.bool false]) else none|none=>none) else none)=some v->
  ok=true/\∃z,fw P asserted=some z/\plain z=true/\v=.tuple #[z,.bool false]:=by
  intro v aD;cases ok with
  |false=>simp at aD
  |true=>
   simp only[bH] at aD;cases a0:fw P asserted with
   |none=>rw[a0] at aD;simp at aD
   |some z=>
    rw[a0] at aD;simp only at aD;cases ao:plain z with
    |false=>rw[ao] at aD;simp at aD
    |true=>rw[ao] at aD;simp at aD;exact⟨rfl,z,rfl,ao,aD.symm⟩
 have yX:∀z,plain z=true->a3 μ (.tuple #[z,.bool false]) (.tuple #[z,.bool false]):=fun z a0=>a3.G5 (bp.cons (ll a0) (bp.cons (.atom _ rfl) (bp.nil _)));have KW:∀y nQ,a3 μ y nQ->a3 μ (bif ok then .tuple #[y,.bool true] else y) (if ok then .tuple #[nQ,.bool true] else nQ):=fun y nQ aC=>by
  cases ok with
  |true=>exact a3.G5 (bp.cons aC (bp.cons (.atom _ rfl) (bp.nil _)))
  |false=>exact aC
 cases hu:P.underlying asserted with
 |none=>rw[hu] at he;simp at he
 |some d=>
  rw[hu] at he;cases x with
  |nilIface=>
   rw[j.zx];have aD:(bif ok then(match fw P asserted with|some z=>bif plain z then some (Value.tuple #[z,.bool false]) else none|none=>none) else none)=some v:=by
    cases d<;>exact he
   obtain⟨rfl,z,a0,ao,rfl⟩:=ET v aD;refine⟨_,?_,yX z ao⟩;cases d<;>simp[Instr.typeAssert,dH hu,p4 a0]
  |iface t y=>
   obtain⟨nQ,rfl,aC⟩:=j.qV;by_cases aq:∃want,d=.interface want
   ·obtain⟨want,rfl⟩:=aq;simp only at he;cases Bu:P.info? t with
    |none=>rw[Bu] at he;simp at he
    |some i=>
     rw[Bu] at he;simp only at he;cases sd:Instr.missingMethod want i.methods with
     |none=>
      rw[sd] at he;simp only[bL] at he;subst he;refine⟨_,?_,KW _ _ (.iface t y nQ aC)⟩;simp[Instr.typeAssert,dH hu,typeInfo,Bu,sd]
     |some zy=>
      rw[sd] at he;obtain⟨rfl,z,a0,ao,rfl⟩:=ET v he;refine⟨_,?_,yX z ao⟩;simp[Instr.typeAssert,dH hu,typeInfo,Bu,sd,p4 a0]
   ·have lO:(bif Nat.beq t asserted then some (bif ok then .tuple #[y,.bool true] else y) else(bif ok then(match fw P asserted with|some z=>bif plain z then some (Value.tuple #[z,.bool false]) else none|none=>none) else none))=some v:=by
     cases d<;>first|exact he|exact absurd ⟨_,rfl⟩ aq
    cases af:Nat.beq t asserted with
    |true=>
     rw[af,bH] at lO;simp only[bL] at lO;subst lO;have:=dB af;subst this;refine⟨_,?_,KW _ _ aC⟩;cases d<;>first|exact absurd ⟨_,rfl⟩ aq|simp[Instr.typeAssert,dH hu]
    |false=>
     rw[af,cZ] at lO;obtain⟨rfl,z,a0,ao,rfl⟩:=ET v lO;have dV:t≠asserted:=fun e=>by subst e;simp at af
     refine⟨_,?_,yX z ao⟩;cases d<;>first|exact absurd ⟨_,rfl⟩ aq|simp[Instr.typeAssert,dH hu,dV,p4 a0]
  |_=>cases d<;>simp at he
theorem RA{t:TypeId}{x dh y nQ:Value}{r:Bool}(j:a3 μ x dh)(aC:a3 μ y nQ)(he:qy P t x y=some r)(d:Nat)(w:World):(Op.equalIn (d+1) t dh nQ).run P w=.ok r w:=by
 unfold qy at he;cases hu:P.underlying t with
 |none=>rw[hu] at he;simp at he
 |some mX=>
  rw[hu] at he;cases mX with
  |pointer elem=>
   cases x with
   |pointer a=>
    cases y with
    |pointer b=>
     cases a with
     |none=>
      rw[j.wU];cases b with
      |none=>rw[aC.wU];simp at he;subst he;simp[Op.equalIn,dH hu]
      |some b=>obtain⟨id,off,L,rfl,bD,rfl⟩:=aC.kS;simp at he;subst he;simp[Op.equalIn,dH hu]
     |some a=>
      obtain⟨id,off,L,rfl,bD,rfl⟩:=j.kS;cases b with
      |none=>rw[aC.wU];simp at he;subst he;simp[Op.equalIn,dH hu]
      |some b=>
       obtain⟨iY,eB,bn,rfl,pq,rfl⟩:=aC.kS;simp only at he;cases ag:dD P elem with
       |none=>rw[ag] at he;simp at he
       |some n=>
        rw[ag] at he;cases n with
        |zero=>simp at he
        |succ n=>
         simp only at he;cases af:Nat.beq id iY with
         |false=>rw[af] at he;simp at he
         |true=>
          rw[af,bH] at he;have:=dB af;subst this;rw[bD] at pq;injection pq with pq;subst pq
          simp only[bL] at he;subst he;have tU:(({block:=id,off:=off}:Addr)=={block:=id,off:=eB})=(({block:=L.r,off:=off}:Addr)=={block:=L.r,off:=eB}):=by
           rw[mb];simp
          rw[tU];simp[Op.equalIn,dH hu,h3 ag,sameAddr]
    |_=>simp at he
   |_=>simp at he
  |slice elem=>
   cases x with
   |slice a l c=>
    cases y with
    |slice b l' bo=>
     cases a with
     |none=>
      rw[j.nM];cases b with
      |none=>rw[aC.nM];simp at he;subst he;simp[Op.equalIn,dH hu]
      |some b=>obtain⟨_,_,rfl⟩:=aC.sR;simp at he;subst he;simp[Op.equalIn,dH hu]
     |some a=>
      obtain⟨_,_,rfl⟩:=j.sR;cases b with
      |none=>rw[aC.nM];simp at he;subst he;simp[Op.equalIn,dH hu]
      |some b=>simp at he
    |_=>simp at he
   |_=>simp at he
  |map k e=>
   cases x with
   |map a=>
    cases y with
    |map b=>
     cases a with
     |none=>
      rw[j.zr];cases b with
      |none=>rw[aC.zr];simp at he;subst he;simp[Op.equalIn,dH hu]
      |some b=>obtain⟨_,_,rfl⟩:=aC.zq;simp at he;subst he;simp[Op.equalIn,dH hu]
     |some a=>
      obtain⟨_,_,rfl⟩:=j.zq;cases b with
      |none=>rw[aC.zr];simp at he;subst he;simp[Op.equalIn,dH hu]
      |some b=>simp at he
    |_=>simp at he
   |_=>simp at he
  |func ps rs v=>
   cases x with
   |nilFunc=>
    rw[j.Cf];cases y with
    |func fn a b=>
     simp at he;subst he;cases aC with
     |atom _ q=>simp[isAtom] at q
     |func=>simp[Op.equalIn,dH hu]
     |yield=>simp[Op.equalIn,dH hu]
    |_=>simp at he
   |func fn a b=>
    cases y with
    |nilFunc=>
     rw[aC.Cf];simp at he;subst he;cases j with
     |atom _ q=>simp[isAtom] at q
     |func=>simp[Op.equalIn,dH hu]
     |yield=>simp[Op.equalIn,dH hu]
    |_=>simp at he
   |_=>simp at he
  |interface B'=>
   cases x with
   |nilIface=>
    rw[j.zx];cases y with
    |iface t y=>obtain⟨_,rfl,_⟩:=aC.qV;simp at he;subst he;simp[Op.equalIn,dH hu]
    |_=>simp at he
   |iface t x=>
    obtain⟨_,rfl,_⟩:=j.qV;cases y with
    |nilIface=>rw[aC.zx];simp at he;subst he;simp[Op.equalIn,dH hu]
    |_=>simp at he
   |_=>simp at he
  |_=>simp at he
theorem M'{r:Nat}{c:Array Value}{e:TypeId}{f:Nat×Nat}(h:w.heap[r]?=some (.cells c e f)):(shape r).run P w=.ok (some (e,c.size)) w:=by
 simp[shape,Sem.run,World.shape?,h]
theorem N0{r:Nat}{c:Array Value}{e:TypeId}{f:Nat×Nat}(h:w.heap[r]?=some (.cells c e f)):(viewAt r).run P w=.ok none w:=by
 simp[viewAt,M' h]
theorem P9{r:Nat}{c:Array Value}{e:TypeId}{f:Nat×Nat}(h:w.heap[r]?=some (.cells c e f)):(cellsIn r).run P w=.ok (some c.size) w:=by
 simp[cellsIn,M' h]
theorem Rw(h:bz P B w0 μ H w){src dst:TypeId}{x dh v:Value}(j:a3 μ x dh)(he:D1 P H src dst x=some v):
 ∃v',(convert src dst dh).run P w=.ok v' w/\a3 μ v v':=by
 unfold D1 at he;cases hu:P.underlying src with
 |none=>rw[hu] at he;simp at he
 |some ds=>
  rw[hu] at he;cases ax:P.underlying dst with
  |none=>rw[ax] at he;simp at he
  |some tv=>
   rw[ax] at he;cases ds with
   |pointer t=>
    cases tv with
    |unsafePointer=>
     cases x with
     |pointer a=>
      cases a with
      |none=>simp at he
      |some a=>
       obtain⟨id,off,L,rfl,bD,rfl⟩:=j.kS;simp only at he;cases ag:dD P t with
       |none=>rw[ag] at he;simp at he
       |some n=>
        rw[ag] at he;cases n with
        |zero=>simp at he
        |succ n=>
         cases hm:H.mem.get id with
         |none=>rw[hm] at he;simp at he
         |some b=>
          rw[hm] at he;cases b with
          |row cells el opn ba du sh=>
           simp only at he;cases af:Nat.blt off cells.length with
           |false=>rw[af] at he;simp at he
           |true=>
            rw[af,bH] at he;simp only[bL] at he;subst he;have af:off<cells.length:=fV af;obtain⟨c,f,b4,b0,cI,eM,eH,fg,e2⟩:=h.row bD hm;have cx:¬(c.size<=off):=by omega
            refine⟨_,?_,j⟩;simp[convert,dH hu,dH ax,Conv.unsafePointer,Conv.seenAt,N0 b4,P9 b4,cx,h3 ag]
          |_=>simp at he
     |_=>simp at he
    |_=>simp at he
   |unsafePointer=>
    cases tv with
    |pointer u=>
     cases x with
     |pointer a=>
      cases a with
      |none=>simp at he
      |some a=>
       obtain⟨id,off,L,rfl,bD,rfl⟩:=j.kS;simp only at he;cases ag:dD P u with
       |none=>rw[ag] at he;simp at he
       |some n=>
        rw[ag] at he;cases n with
        |zero=>simp at he
        |succ n=>
         cases hm:H.mem.get id with
         |none=>rw[hm] at he;simp at he
         |some b=>
          rw[hm] at he;cases b with
          |row cells el opn ba du sh=>
           cases opn with
           |true=>simp at he
           |false=>
            simp only at he;cases af:liesAt P P.depth el (cells.length / P.cellsOf el) off u 1 with
            |false=>rw[af] at he;simp at he
            |true=>
             rw[af,bH] at he;simp only[bL] at he;subst he;obtain⟨c,f,b4,b0,cI,eM,eH,fg,e2⟩:=h.row bD hm;have jH:c.size=cells.length:=by rw[b0,eH rfl]
             have FA:w.shape? L.r=some (el,c.size):=by simp[World.shape?,b4]
             refine⟨_,?_,j⟩;simp[convert,dH hu,dH ax,Conv.unsafePointer,Conv.seenAt,N0 b4,h3 ag,variablesAt,FA,jH,af]
          |_=>simp at he
     |_=>simp at he
    |_=>simp at he
   |_=>cases tv<;>simp at he
end
end
end Go.Cre
namespace Go.Cre
noncomputable section
open Go.RowKit
section
variable {P:Program}{B:Nat->Prop}{w0 w:World}{μ:bm}{H H':ah}
theorem IU:∀{l:List Value} {il:List UInt8},lI l=some il->l=il.map (fun b=>Value.int .u8 (b.toNat:Int)):=by
 intro l;induction l with
 |nil=>intro il h;simp[lI] at h;subst h;rfl
 |cons v l aN=>
  intro il h;cases v with
  |int k n=>
   cases k with
   |u8=>
    cases n with
    |ofNat n=>
     simp only[lI] at h;cases cx:Nat.blt n 256 with
     |false=>rw[cx] at h;simp at h
     |true=>
      rw[cx,bH] at h;have cx:n<256:=fV cx;cases af:lI l with
      |none=>rw[af] at h;simp at h
      |some r=>
       rw[af] at h;simp only[bL] at h;subst h;rw[s9,<-aN af];congr 2
       have:(UInt8.ofNat n).toNat=n:=by simp;omega
       rw[this];rfl
    |negSucc n=>simp[lI] at h
   |_=>simp[lI] at h
  |_=>simp[lI] at h
theorem bp.bytes{il:List UInt8}{l':List Value}(h:bp μ (il.map fun b=>Value.int .u8 (b.toNat:Int)) l'):l'=il.map fun b=>Value.int .u8 (b.toNat:Int):=by
 induction il generalizing l' with
 |nil=>exact h.ie
 |cons b il aN=>
  obtain⟨v',t,rfl,U,ab⟩:=h.g6;rw[U.lZ,aN ab];rfl
theorem Vb{v:Value}(h:isByte v=true):∃n,v=.int .u8 (.ofNat n)/\Nat.blt n 256=true:=by
 cases v with
 |int k i=>
  cases k with
  |u8=>cases i with
   |ofNat n=>exact⟨n,rfl,h⟩
   |negSucc n=>cases h
  |_=>cases h
 |_=>cases h
theorem PJ:∀(c r:List Value),(∀v∈c,isByte v=true)->lI c=some (Nu c.length (c++r)):=by
 intro c;induction c with
 |nil=>intro r _;cases r<;>rfl
 |cons v c aN=>
  intro r h;obtain⟨n,rfl,aE⟩:=Vb (h v (by simp));have aq:=aN r fun u hu=>h u (by simp[hu]);simp only[lI,aE,bH,aq];rfl
theorem QL(k:Nat)(l:List Value):qw (k+1) l=Option.rec (motive:=fun _=>Option (List Value)) none (qw k) (qw k l):=rfl
theorem QK:∀{k:Nat} {l r:List Value},qw k l=some r->∃c,l=c++r/\c.length=2 ^ k/\∀v∈c,isByte v=true:=by
 intro k;induction k with
 |zero=>
  intro l r h;cases l with
  |nil=>cases h
  |cons v l=>
   have h:Bool.rec (motive:=fun _=>Option (List Value)) none (some l) (isByte v)=some r:=h;cases af:isByte v with
   |false=>rw[af] at h;cases h
   |true=>rw[af] at h;injection h with h;subst h;exact⟨[v],rfl,rfl,fun u hu=>by simp at hu;rw[hu];exact af⟩
 |succ k aN=>
  intro l r h;rw[QL] at h;cases U:qw k l with
  |none=>rw[U] at h;cases h
  |some m=>
   rw[U] at h;have h:qw k m=some r:=h;obtain⟨bE,rfl,aW,cr⟩:=aN U;obtain⟨b8,rfl,b5,hc⟩:=aN h;refine⟨bE++b8,by simp,by simp[aW,b5,m4];omega,fun v aD=>?_⟩;rcases m3.1 aD with q|q
   ·exact cr v q
   ·exact hc v q
theorem QJ(k n:Nat)(l:List Value):tt (k+1) n l=Bool.rec (motive:=fun _=>Bool) (Option.rec (motive:=fun _=>Bool) false (fun r=>tt k (Nat.sub n (Nat.pow 2 k)) r) (qw k l)) (tt k n l) (Nat.blt n (Nat.pow 2 k)):=rfl
theorem QI:∀{k n:Nat} {l:List Value},tt k n l=true->∃c r,l=c++r/\c.length=n/\∀v∈c,isByte v=true:=by
 intro k;induction k with
 |zero=>
  intro n l h;have h:Nat.beq n 0=true:=h;exact⟨[],l,rfl,(dB h).symm,fun v aD=>by cases aD⟩
 |succ k aN=>
  intro n l h;rw[QJ] at h;cases af:Nat.blt n (Nat.pow 2 k) with
  |true=>rw[af] at h;exact aN h
  |false=>
   rw[af] at h;have hZ:2 ^ k<=n:=by
    rcases gX n (2 ^ k) with q|q
    ·have:Nat.blt n (Nat.pow 2 k)=true:=jx q;rw[af] at this;cases this
    ·exact q
   cases U:qw k l with
   |none=>rw[U] at h;cases h
   |some m=>
    rw[U] at h;have h:tt k (n -2 ^ k) m=true:=h;obtain⟨bE,rfl,aW,cr⟩:=QK U;obtain⟨b8,r,rfl,b5,hc⟩:=aN h;have b5:b8.length=n -2 ^ k:=b5;refine⟨bE++b8,r,by simp,by rw[hP,aW,b5];omega,fun v aD=>?_⟩;rcases m3.1 aD with q|q
    ·exact cr v q
    ·exact hc v q
theorem Zf{α:Type}:∀{c:List α} (r:List α),takeN c.length (c++r)=some c:=by
 intro c;induction c with
 |nil=>intro r;rfl
 |cons a c aN=>intro r;simp only[kY,List.cons_append,takeN];rw[aN r]
theorem RT{src dst:TypeId}{x v:Value}(he:D5 P H src dst x=some v):vA P H src dst x=some v:=by
 unfold D5 at he;unfold vA;cases U:P.underlying src with
 |none=>rw[U] at he;cases he
 |some ft=>
  rw[U] at he;cases ab:P.underlying dst with
  |none=>rw[ab] at he;cases ft<;>cases he
  |some mX=>
   rw[ab] at he;cases ft with
   |slice e=>
    cases mX with
    |string=>
     cases x with
     |slice b len cap=>
      cases b with
      |none=>cases he
      |some a=>
       simp only at he ⊢;cases aQ:P.underlying e with
       |none=>rw[aQ] at he;cases he
       |some Nw=>
        rw[aQ] at he;cases aP:a.spot with
        |some s=>rw[aP] at he;cases Nw<;>first|(cases he;done)|(rename_i k;cases k<;>cases he)
        |none=>
         rw[aP] at he;cases Nw with
         |int k=>
          cases k with
          |u8=>
           cases bC:H.mem.get a.block with
           |none=>rw[bC] at he;cases he
           |some k2=>
            rw[bC] at he;cases k2 with
            |row cells el opn ba du sh=>
             simp only at he ⊢;unfold Ny at he;cases ax:tt 21 len (lJ a.off cells) with
             |false=>rw[ax] at he;cases he
             |true=>
              rw[ax,bH] at he;obtain⟨c,r,aA,aW,cr⟩:=QI ax;have ay:hd H 1 len (.slice (some a) len 0)=some c:=by
               unfold hd;simp only[aP];cases len with
               |zero=>simp only;rw[s8.1 aW]
               |succ m=>
                simp only[bC,iE];rw[aA,<-aW];exact Zf r
              simp only[ay,PJ c r cr,sC,aP,kB,cZ];rw[aW,<-aA];exact he
            |_=>cases he
          |_=>cases he
         |_=>cases he
     |_=>cases he
    |_=>cases x<;>first|(cases he;done)|(rename_i b _ _;cases b<;>cases he)
   |_=>cases he
theorem RS{src dst:TypeId}{x v:Value}(he:D4 P H src dst x=some v):vA P H src dst x=some v:=by
 unfold D4 at he;cases aw:F6 x with
 |false=>rw[aw] at he;exact he
 |true=>rw[aw] at he;exact RT he
theorem RU(h:bz P B w0 μ H w){src dst:TypeId}{x dh v:Value}(j:a3 μ x dh)(he:vA P H src dst x=some v):
 ∃v',(convert src dst dh).run P w=.ok v' w/\a3 μ v v':=by
 unfold vA at he;cases hu:P.underlying src with
 |none=>rw[hu] at he;simp at he
 |some ds=>
  rw[hu] at he;cases ax:P.underlying dst with
  |none=>rw[ax] at he;simp at he
  |some tv=>
   rw[ax] at he;cases ds with
   |slice e=>
    cases tv with
    |string=>
     cases x with
     |slice a len cap=>
      cases a with
      |none=>
       rw[j.nM];simp only at he;cases j7:P.underlying e with
       |none=>rw[j7] at he;simp at he
       |some DT=>
        rw[j7] at he;cases DT with
        |int k=>
         cases k with
         |u8=>
          simp only[bL] at he;subst he;refine⟨.string .empty,?_,.atom _ rfl⟩;rw[run_convert_bytes_string w src dst e _ _ _ hu j7 ax];simp[Conv.bytesToString]
         |_=>simp at he
        |_=>simp at he
      |some a=>
       have mH:a.spot=none:=by
        cases q:a.spot with
        |none=>rfl
        |some _=>simp[sC,q] at he
       obtain⟨id,off,L,eB,c',rfl,bD,rfl,ae,_,_⟩:=j.pY (.inl mH);simp only[sC,kB,cZ] at he;cases j7:P.underlying e with
       |none=>rw[j7] at he;simp at he
       |some DT=>
        rw[j7] at he;cases DT with
        |int k=>
         cases k with
         |u8=>
          simp only at he;cases ay:hd H 1 len (.slice (some ⟨id,off,none⟩) len 0) with
          |none=>rw[ay] at he;simp at he
          |some cells=>
           rw[ay] at he;simp only at he;cases af:lI cells with
           |none=>rw[af] at he;simp at he
           |some il=>
            rw[af] at he;simp only[bL] at he;subst he;have Bq:=IU af;have Uy:a3 μ (.slice (some ⟨id,off,none⟩) len 0) (.slice (some ⟨L.r,off,none⟩) len 0):=.kb id off len 0 L bD (by decide);obtain⟨l',b4,b0⟩:=A6 h Uy (m:=len) rfl (c9 _) ay;rw[Bq] at b4;have cY:=b4.bytes;subst cY;have Bv:(loadCells ⟨L.r,eB,none⟩ len).run P w=.ok ((il.map fun b=>(b.toNat:Int)).map (Value.int .u8)).toArray w:=by
             by_cases a2:0<len
             ·rw[ae a2];have:=b0 w.drawn;simp only[Builtin.firstCells,iE] at this;rw[this];simp
             ·have tY:len=0:=by omega
              subst tY;have Ts:il.map (fun b=>Value.int .u8 (b.toNat:Int))=[]:=by
               rw[<-Bq];simp[hd] at ay;exact ay
              have:il=[]:=by simpa using Ts
              subst this;simp[loadCells,loadCellsFrom]
            refine⟨.string ⟨il.toArray⟩,?_,.atom _ rfl⟩;rw[run_convert_bytes_string w src dst e _ _ _ hu j7 ax,run_bytesToString w ⟨L.r,eB,none⟩ len c' _ Bv,foldl_push_bytes];congr 2
            have tW:((fun n:Int=>UInt8.ofNat n.toNat) ∘ fun b:UInt8=>(b.toNat:Int))=_root_.id:=by funext b;simp
            apply ByteArray.ext
            simp[tW]
         |_=>simp at he
        |_=>simp at he
     |_=>simp at he
    |_=>simp at he
   |_=>cases tv<;>simp at he
theorem Sd{r n:Nat}{c:Array Value}{e:TypeId}{f:Nat×Nat}(h:w.heap[r]?=some (.cells c e f))(aE:n≠0):
 w.freeze ⟨r,0,none⟩ n={w with heap:=w.heap.setIfInBounds r (.cells c e (if f.1==f.2 then(0,0+n) else(min f.1 0,max f.2 (0+n))))}:=by
 have ap:r<w.heap.size:=by
  rcases gX r w.heap.size with cF|cF
  ·exact cF
  ·rw[nS cF] at h;cases h
 unfold World.freeze;rw[a1 aE];congr 1
 apply xj
 intro i;rw[Ou,sZ];by_cases aq:r=i
 ·subst aq;rw[bs rfl,bs rfl,h,bs ap];rfl
 ·simp[aq]
theorem RW(h:bz P B w0 μ H w){nI it dq:TypeId}{p fI n uu v:Value}(ao:a3 μ p fI)(aE:a3 μ n uu)(he:D7 P H nI p n=some (v,H')):
 ∃v' aZ,(Builtin.unsafeString_ #[nI,it] dq #[fI,uu]).run P w=.ok v' aZ/\bz P B w0 μ H' aZ/\Step μ μ H H'/\a3 μ v v':=by
 unfold D7 at he;cases p with
 |pointer a=>
  cases n with
  |int k i=>
   cases k with
   |i64=>
    obtain rfl:=aE.lZ;cases i with
    |ofNat m=>
     cases m with
     |zero=>
      cases a with
      |none=>
       rw[ao.wU];simp only[bL,cU] at he;obtain⟨rfl,rfl⟩:=he;exact⟨_,w,Lib.run_unsafeString_none w nI it dq none,h,Step.refl _ _,.atom _ rfl⟩
      |some a=>
       obtain⟨id,off,L,rfl,bD,rfl⟩:=ao.kS;simp only[bL,cU] at he;obtain⟨rfl,rfl⟩:=he;exact⟨_,w,Lib.run_unsafeString_none w nI it dq _,h,Step.refl _ _,.atom _ rfl⟩
     |succ m=>
      cases a with
      |none=>exact absurd (show none=some (v,H') from he) (by simp)
      |some a=>
       obtain⟨id,off,L,rfl,bD,rfl⟩:=ao.kS;simp only at he;cases hu:P.underlying nI with
       |none=>rw[hu] at he;simp at he
       |some d=>
        rw[hu] at he;cases d with
        |pointer u=>
         cases hm:H.mem.get id with
         |none=>rw[hm] at he;simp at he
         |some b=>
          rw[hm] at he;cases b with
          |row cells e opn ba du sh=>
           simp only at he;cases aF:(Nat.beq e u&&Nat.beq (P.cellsOf e) 1&&Nat.ble (m+1) 1000000&&!Nat.blt id H.bf&&Nat.beq off 0&&!sh) with
           |false=>rw[aF] at he;simp at he
           |true=>
            rw[aF] at he;simp only[kB,cZ] at he;simp only[eT,nT] at aF;obtain⟨⟨⟨⟨⟨aQ,aP⟩,bC⟩,dp⟩,gi⟩,iO⟩:=aF;have aQ:=dB aQ;subst aQ;have aP:=dB aP;have bC:=fV bC;have dp:=IR dp;have gi:=dB gi;subst gi;cases aG:takeN (m+1) cells with
            |none=>rw[aG] at he;simp at he
            |some l=>
             rw[aG] at he;simp only at he;cases af:lI l with
             |none=>rw[af] at he;simp at he
             |some il=>
              rw[af] at he;simp only at he;cases FJ:H.upd id (.row cells e opn ba (bif sh then n9 else Nat.max du (m+1)) sh) with
              |none=>rw[FJ] at he;simp at he
              |some H0=>
               rw[FJ] at he;simp only at he;cases E4:(bif opn then su H0 id ba else some H0) with
               |none=>rw[E4] at he;simp at he
               |some H1=>
               rw[E4] at he;simp only[bL,cU] at he;obtain⟨rfl,rfl⟩:=he;obtain⟨c,f,b4,b0,cI,eM,eH,fg,e2⟩:=h.row bD hm;obtain⟨t1,t2,t3⟩:=w6 aG;have hle:=IU af;have tR:il.length=m+1:=by have:=ak List.length hle;simp at this;omega
               have cY:bp μ l ((c.toList.take cells.length).take (m+1)):=by rw[t1];exact fg.take (m+1)
               rw[hle] at cY;have To:=cY.bytes;have FA:w.shape? L.r=some (e,c.size):=by simp[World.shape?,b4]
               have e4:=Lib.run_unsafeString_row (P:=P) w nI it dq e hu aP L.r c.size FA il (by intro q;rw[q] at tR;simp at tR) (by omega) (by omega) (fun aa x aX=>by
                rw[Addr.ml,lE,cell_of_row b4];have:((c.toList.take cells.length).take (m+1))[aa]?=some (Value.int .u8 (x.toNat:Int)):=by rw[To,mg,aX];rfl
                rw[kX] at this;split at this
                ·rw[kX] at this;split at this
                 ·simpa using this
                 ·cases this
                ·cases this)
               rw[tR] at e4;have hY:=Sd (n:=m+1) b4 (by omega);rw[hY] at e4;have af:hl P μ L (.row cells e opn ba (bif sh then n9 else Nat.max du (m+1)) sh) (.cells c e (if f.1==f.2 then(0,0+(m+1)) else(min f.1 0,max f.2 (0+(m+1))))):=by
                refine⟨rfl,b0,cI,eM,eH,fun i v v' q cR=>fg.2 i v v' q ?_,?_⟩
                ·have aq:=(h4.1 q).1;rw[kX,bs aq];simpa using cR
                ·cases sh with
                 |true=>cases iO
                 |false=>
                  simp only[cZ];have se:m+1<=Nat.max du (m+1):=Nat.le_max_right _ _;have abS:du<=Nat.max du (m+1):=Nat.le_max_left _ _;rcases e2.2 rfl with q|q
                  ·rw[bs (by simpa using q)];exact⟨fun off _ _ ab=>by simp at ab;omega,fun _=>.inr (by simpa using se)⟩
                  ·by_cases lP:f.1=f.2
                   ·rw[bs (by simpa using lP)];exact⟨fun off _ _ ab=>by simp at ab;omega,fun _=>.inr (by simpa using se)⟩
                   ·rw[a1 (by simpa using lP)];have:max f.2 (0+(m+1))<=Nat.max du (m+1):=Nat.max_le.2 ⟨by omega,by omega⟩;exact⟨fun off _ _ ab=>by simp only at ab;omega,fun _=>.inr this⟩
               obtain⟨cJ,cW⟩:=h.Od bD dp hm rfl FJ E4 af;exact⟨_,_,e4,cJ,cW,.atom _ rfl⟩
          |_=>simp at he
        |_=>simp at he
    |negSucc m=>cases a<;>simp at he
   |_=>cases a<;>simp at he
  |_=>cases a<;>simp at he
 |_=>simp at he
theorem strCells_eq(l:List UInt8):strCells l=l.map fun b=>Value.int .u8 b.toNat:=by
 induction l with
 |nil=>rfl
 |cons b l aN=>show Value.int .u8 (.ofNat b.toNat)::strCells l=_;rw[aN];rfl
theorem ah.Wj{H H1:ah}{cells:List Value}{e:TypeId}{sh:Bool}{id:Nat}(aE:H.kt cells e sh=some (id,H1)):H1.av=H.av+1:=by
 unfold ah.kt at aE;cases ay:H.pL with
 |none=>rw[ay] at aE;cases aE
 |some p=>
  obtain⟨f,bG⟩:=p;rw[ay] at aE;have U:=(ah.l3 aE).2.1;have ab:=(ah.Ce ay).2.1;omega
theorem RQ{src dst:TypeId}{s:ByteArray}{v:Value}{H1:ah}(he:qA P H src dst s=some (v,H1)):H1.av=H.av+1:=by
 unfold qA at he;split at he
 ·split at he
  ·rename_i e _ _ _ _;cases af:Nat.beq (P.cellsOf e) 1 with
   |false=>rw[af] at he;cases he
   |true=>
    rw[af,bH] at he;cases aE:H.kt (strCells s.data.toList) e true with
    |none=>rw[aE] at he;cases he
    |some p=>
     obtain⟨id,bG⟩:=p;rw[aE] at he;have he:some (Value.slice (some ⟨id,0,none⟩) s.data.toList.length cf,bG)=some (v,H1):=he;simp only[bL,cU] at he;obtain⟨_,rfl⟩:=he;exact ah.Wj aE
  ·cases he
 ·cases he
theorem RR(h:bz P B w0 μ H w){src dst:TypeId}{s:ByteArray}{v:Value}{H1:ah}(he:qA P H src dst s=some (v,H1)):
 ∃v' aZ a4,(convert src dst (.string s)).run P w=.ok v' aZ/\bz P B w0 a4 H1 aZ/\Step μ a4 H H1/\a3 a4 v v':=by
 unfold qA at he;split at he
 ·rename_i e U ab;split at he
  ·rename_i aV;cases af:Nat.beq (P.cellsOf e) 1 with
   |false=>rw[af] at he;cases he
   |true=>
    rw[af,bH] at he;cases aE:H.kt (strCells s.data.toList) e true with
    |none=>rw[aE] at he;cases he
    |some p=>
     obtain⟨id,bG⟩:=p;rw[aE] at he;have he:some (Value.slice (some ⟨id,0,none⟩) s.data.toList.length cf,bG)=some (v,H1):=he;simp only[bL,cU] at he;obtain⟨rfl,rfl⟩:=he;have Bq:=dB af;have hZ:=grownCap_ge w s.size 0 e;have de:s.size=s.data.toList.length:=by rw[Array.length_toList];rfl
     have jK:(bytesRow s (grownCap w s.size 0 e)).size=grownCap w s.size 0 e:=by
      unfold bytesRow;have:s.data.size=s.size:=rfl;simp[this];omega
     obtain⟨bP,bS,rfl⟩:=h.drew.F' (o:=.cells (bytesRow s (grownCap w s.size 0 e)) e ((bytesRow s (grownCap w s.size 0 e)).size,(bytesRow s (grownCap w s.size 0 e)).size+1)) (L:=⟨w.heap.size,grownCap w s.size 0 e,1⟩) aE rfl (fun f=>by
      refine⟨rfl,jK,Bq,?_,(fun q=>by cases q),fun i u gv x y=>?_,⟨fun off ae U ab=>?_,(fun q=>by cases q)⟩⟩
      ·rw[strCells_eq,jw,<-de];exact hZ
      ·rw[strCells_eq,mg] at x;obtain⟨b,nn,rfl⟩:=xG.1 x;have aq:i<s.data.size:=by
        have:=(h4.1 nn).1;simpa using this
       unfold bytesRow at y;rw[Hy,bs (by simpa using aq)] at y;rw[Array.getElem?_map,<-Array.getElem?_toList,nn] at y;simp only[AF,bL] at y;subst y;exact .atom _ rfl
      ·rw[jK] at U;show off<0;have:off<grownCap w s.size 0 e:=ae;omega)
     refine⟨_,_,_,run_bytes_of_string w src dst e s U ab aV,bP,bS,?_⟩;rw[<-de];exact .lo H.av 0 s.size _ ⟨w.heap.size,grownCap w s.size 0 e,1⟩ (bm.hC _ _ _) hZ (by simp)
  ·cases he
 ·cases he
end
end
end Go.Cre
namespace Go.Cre
noncomputable section
open Go.RowKit
section
variable {P:Program}{B:Nat->Prop}{w0 w:World}{μ:bm}{H H':ah}{T:aL Value}{n:Nat}{tmps:Array Value}
def cB(tmps:Array Value):Operand->Value
 |.tmp t=>tmps.getD t undef
 |.const v=>v
 |.global g=>.pointer (some ⟨g,0,none⟩)
 |.func f=>.func (.func f) #[] #[]
theorem oM(h:bz P B w0 μ H w)(aG:hI μ T n tmps){x:Operand}{v:Value}(he:aR T H x=some v):a3 μ v (cB tmps x):=by
 cases x with
 |tmp t=>exact aG.2 t v he
 |const c=>
  have he:(bif plain c then some c else none)=some v:=he;cases ao:plain c with
  |false=>rw[ao] at he;simp at he
  |true=>rw[ao] at he;simp at he;subst he;exact ll ao
 |global g=>
  have he:wQ H g=some v:=he;unfold wQ at he;cases ar:Nat.blt g H.bf with
  |false=>rw[ar] at he;simp at he
  |true=>
   rw[ar,bH] at he;have ar:g<H.bf:=fV ar;cases hm:H.mem.get g with
   |none=>rw[hm] at he;simp at he
   |some b=>
    rw[hm] at he;cases b with
    |row c e o f z s=>
     simp only[bL] at he;subst he;obtain⟨L,bD⟩:=h.oa g c e o f z s ar hm;have:=a3.ptr (μ:=μ) g 0 L bD;rw[h.own g L bD ar] at this;exact this
    |_=>simp at he
 |func f=>
  have he:some (Value.func (.func f) #[] #[])=some v:=he;injection he with he;subst he
  exact .func _ _ _ _ _ rfl rfl rfl (fun i v v' q=>by simp at q) (fun i v v' q=>by simp at q)
theorem zL(h:bz P B w0 μ H w)(aG:hI μ T n tmps):∀{l:List Operand} {vs:List Value},ev T H l=some vs->bp μ vs (l.map (cB tmps)):=by
 intro l;induction l with
 |nil=>intro vs he;simp[ev] at he;subst he;exact bp.nil _
 |cons x l aN=>
  intro vs he;simp only[ev] at he;cases j:aR T H x with
  |none=>rw[j] at he;simp at he
  |some v=>
   rw[j] at he;cases aw:ev T H l with
   |none=>rw[aw] at he;simp at he
   |some r=>rw[aw] at he;simp at he;subst he;exact bp.cons (oM h aG j) (aN aw)
theorem Xe:∀{l:List Operand} {vs:List Value},ev T H l=some vs->∀x∈l,∃v,aR T H x=some v/\v∈vs:=by
 intro l;induction l with
 |nil=>intro vs he x j;simp at j
 |cons y l aN=>
  intro vs he x j;simp only[ev] at he;cases aC:aR T H y with
  |none=>rw[aC] at he;simp at he
  |some v=>
   rw[aC] at he;cases aw:ev T H l with
   |none=>rw[aw] at he;simp at he
   |some r=>
    rw[aw] at he;simp at he;subst he;rcases fy.1 j with rfl|j
    ·exact⟨v,aC,by simp⟩
    ·obtain⟨u,a,b⟩:=aN aw x j;exact⟨u,a,by simp[b]⟩
theorem Mw(h:bz P B w0 μ H w)(aG:hI μ T n tmps):∀{l:List (Nat×Operand)} {ps:List (Nat×Value)},iw T H l=some ps->qg μ ps (l.map fun(i,x)=>(i,cB tmps x)):=by
 intro l;induction l with
 |nil=>intro vs he;simp[iw] at he;subst he;exact⟨rfl,fun i p fI q=>by simp at q⟩
 |cons x l aN=>
  intro vs he;obtain⟨i,x⟩:=x;simp only[iw] at he;cases j:aR T H x with
  |none=>rw[j] at he;simp at he
  |some v=>
   rw[j] at he;cases aw:iw T H l with
   |none=>rw[aw] at he;simp at he
   |some r=>
    rw[aw] at he;simp at he;subst he;have:=aN aw;refine⟨by simp[this.1],fun aa p fI q cR=>?_⟩;cases aa with
    |zero=>simp at q cR;subst q;subst cR;exact⟨rfl,oM h aG j⟩
    |succ aa=>exact this.2 aa p fI (by simpa using q) (by simpa using cR)
def kg(P:Program)(B:Nat->Prop)(w0:World)(call:dI)(az:ff)(μ:bm)(H:ah)(w:World)(s:Sem Next):b9->Prop
 |.val v H'=>(∃v' aZ a4,s.run P w=.ok (.value v') aZ/\bz P B w0 a4 H' aZ/\Step μ a4 H H'/\a3 a4 v v')\/
  (∃f args bJ,s.run P w=(callFunc f bJ.toArray).run P w/\bp μ args bJ/\call f args H=some (.returned v,H'))\/
  (∃l L args bJ,μ l=some L/\s.run P w=(Instr.yield L.r bJ.toArray).run P w/\bp μ args bJ/\az l args H=some (.returned v,H'))
 |.skip H'=>∃aZ,s.run P w=.ok .skip aZ/\bz P B w0 μ H' aZ/\Step μ μ H H'
 |.fN d=>∃h9 cap c' args bJ,d={target:=.fn h9 cap,args:=args.toArray}/\s.run P w=.ok (.defer {target:=.fn h9 c',args:=bJ.toArray}) w/\q4 h9=true/\bp μ cap.toList c'.toList/\bp μ args bJ
 |.hj chain H'=>(∃v v',chain=[{v:=v,recovered:=false}]/\H'=H/\s.run P w=.halt (.panic v') w/\a3 μ v v')\/
  (∃f args bJ,s.run P w=(callFunc f bJ.toArray).run P w/\bp μ args bJ/\call f args H=some (.panicked chain,H'))
 |.uI=>s.run P w=.ok .recover w
variable {call:dI}{az:ff}{o:Oper}{S:aO}
theorem lj{s:Sem Value}{x:Option Value}{r:b9}(h:bz P B w0 μ H w)(ag:∀v,x=some v->∃v',s.run P w=.ok v' w/\a3 μ v v')(he:e' x H=some r):
 kg P B w0 call az μ H w (do pure (.value (<-s))) r:=by
 cases x with
 |none=>cases he
 |some v=>
  have he:some (b9.val v H)=some r:=he;injection he with he;subst he
  obtain⟨v',a,b⟩:=ag v rfl;exact .inl ⟨v',w,μ,by simp[a],h,Step.refl _ _,b⟩
theorem q9{s:Sem Value}{x:Option (Value×ah)}{r:b9}(ag:∀v H',x=some (v,H')->∃v' aZ a4,s.run P w=.ok v' aZ/\bz P B w0 a4 H' aZ/\Step μ a4 H H'/\a3 a4 v v')(he:jT x=some r):
 kg P B w0 call az μ H w (do pure (.value (<-s))) r:=by
 cases x with
 |none=>cases he
 |some p=>
  obtain⟨v,H'⟩:=p;have he:some (b9.val v H')=some r:=he;injection he with he;subst he
  obtain⟨v',aZ,a4,a,b,c,d⟩:=ag v H' rfl;exact .inl ⟨v',aZ,a4,by simp[a],b,c,d⟩
theorem W7{s:Sem Unit}{x:Option ah}{r:b9}(ag:∀H',x=some H'->∃aZ,s.run P w=.ok () aZ/\bz P B w0 μ H' aZ/\Step μ μ H H')(he:Bj x=some r):
 kg P B w0 call az μ H w (do s;pure .skip) r:=by
 cases x with
 |none=>cases he
 |some H'=>
  have he:some (b9.skip H')=some r:=he;injection he with he;subst he
  obtain⟨aZ,a,b,c⟩:=ag H' rfl;exact⟨aZ,by simp[a],b,c⟩
theorem yd(h:bz P B w0 μ H w)(aG:hI μ T n tmps)(Fz:∀cs b,o.op≠.select cs b){r:b9}(he:ek P T H o=some r):kg P B w0 call az μ H w (execOp (cB tmps) o) r:=by
 unfold ek at he;cases ae:ev T H o.op.operands.toList with
 |none=>rw[ae] at he;simp at he
 |some vs=>
  rw[ae] at he;simp only at he;cases ao:vs.all plain with
  |false=>rw[ao] at he;simp at he
  |true=>
   rw[ao,bH] at he;have Tt:execOp (mS T H) o=execOp (cB tmps) o:=execOp_congr o Fz fun x j=>by
    obtain⟨v,a,b⟩:=Xe ae x (by simpa using j);unfold mS;rw[a];exact(Cu (o2.1 ao v b) (oM h aG a)).symm
   rw[Tt] at he;cases fo:en P (execOp (cB tmps) o) with
   |none=>rw[fo] at he;simp at he
   |some av=>
    rw[fo] at he;have e4:=Jw fo w;cases av with
    |value v=>
     simp only at he;cases aD:plain v with
     |false=>rw[aD] at he;simp at he
     |true=>
      rw[aD,bH] at he;simp only[bL] at he;subst he;exact .inl ⟨v,w,μ,e4,h,Step.refl _ _,ll aD⟩
    |skip=>
     simp only[bL] at he;subst he;exact⟨w,e4,h,Step.refl _ _⟩
    |_=>simp at he
end
end
end Go.Cre

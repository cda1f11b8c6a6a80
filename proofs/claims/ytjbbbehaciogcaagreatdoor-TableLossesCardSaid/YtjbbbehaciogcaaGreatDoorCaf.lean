/- A part of the proof of TableLosses. -/
import Derived.Test.YtjbbbehaciogcaaGreatDoorCae
import Derived.Laws.BytesString
import Derived.Laws.IdiomStrings
import Derived.Laws.BytesArg
import Derived.Lib.UnsafeStr
import Derived.Laws.BitsLemmas
set_option linter.unusedVariables false
set_option linter.unusedSimpArgs false
namespace Go.Cre
noncomputable section
open Go.RowKit
section
variable {P:Program}{B:Nat->Prop}{w0 w:World}{μ:bY}{H H':ar}
theorem Xb:∀{l:List Value} {bs:List UInt8},qN l=some bs->l=bs.map (fun b=>Value.int .u8 (b.toNat:Int)):=by
 intro l;induction l with
 |nil=>intro bs h;simp[qN] at h;subst h;rfl
 |cons v l aP=>
  intro bs h;cases v with
  |int k n=>
   cases k with
   |u8=>
    cases n with
    |ofNat n=>
     simp only[qN] at h;cases cD:Nat.blt n 256 with
     |false=>rw[cD] at h;simp at h
     |true=>
      rw[cD,cd] at h;have cD:n<256:=h3 cD;cases ai:qN l with
      |none=>rw[ai] at h;simp at h
      |some r=>
       rw[ai] at h;simp only[cn] at h;subst h;rw[rD,<-aP ai];congr 2
       have:(UInt8.ofNat n).toNat=n:=by simp;omega
       rw[this];rfl
    |negSucc n=>simp[qN] at h
   |_=>simp[qN] at h
  |_=>simp[qN] at h
theorem b3.bytes{bs:List UInt8}{l':List Value}(h:b3 μ (bs.map fun b=>Value.int .u8 (b.toNat:Int)) l'):l'=bs.map fun b=>Value.int .u8 (b.toNat:Int):=by
 induction bs generalizing l' with
 |nil=>exact h.lr
 |cons b bs aP=>
  obtain⟨v',t,rfl,ad,ae⟩:=h.jK;rw[ad.rb,aP ae];rfl
theorem apC{v:Value}(h:isByte v=true):∃n,v=.int .u8 (.ofNat n)/\Nat.blt n 256=true:=by
 cases v with
 |int k i=>
  cases k with
  |u8=>cases i with
   |ofNat n=>exact⟨n,rfl,h⟩
   |negSucc n=>cases h
  |_=>cases h
 |_=>cases h
theorem ag':∀(c r:List Value),(∀v∈c,isByte v=true)->qN c=some (aeb c.length (c++r)):=by
 intro c;induction c with
 |nil=>intro r _;cases r<;>rfl
 |cons v c aP=>
  intro r h;obtain⟨n,rfl,aE⟩:=apC (h v (by simp));have ak:=aP r fun u hu=>h u (by simp[hu]);simp only[qN,aE,cd,ak];rfl
theorem aiZ(k:Nat)(l:List Value):xK (k+1) l=Option.rec (motive:=fun _=>Option (List Value)) none (xK k) (xK k l):=rfl
theorem aiY:∀{k:Nat} {l r:List Value},xK k l=some r->∃c,l=c++r/\c.length=2 ^ k/\∀v∈c,isByte v=true:=by
 intro k;induction k with
 |zero=>
  intro l r h;cases l with
  |nil=>cases h
  |cons v l=>
   have h:Bool.rec (motive:=fun _=>Option (List Value)) none (some l) (isByte v)=some r:=h;cases ai:isByte v with
   |false=>rw[ai] at h;cases h
   |true=>rw[ai] at h;injection h with h;subst h;exact⟨[v],rfl,rfl,fun u hu=>by simp at hu;rw[hu];exact ai⟩
 |succ k aP=>
  intro l r h;rw[aiZ] at h;cases ad:xK k l with
  |none=>rw[ad] at h;cases h
  |some m=>
   rw[ad] at h;have h:xK k m=some r:=h;obtain⟨bb,rfl,aS,cl⟩:=aP ad;obtain⟨br,rfl,cx,iu⟩:=aP h;refine⟨bb++br,by simp,by simp[aS,cx,fP];omega,fun v av=>?_⟩;rcases nh.1 av with q|q
   ·exact cl v q
   ·exact iu v q
theorem aiX(k n:Nat)(l:List Value):Bn (k+1) n l=Bool.rec (motive:=fun _=>Bool) (Option.rec (motive:=fun _=>Bool) false (fun r=>Bn k (Nat.sub n (Nat.pow 2 k)) r) (xK k l)) (Bn k n l) (Nat.blt n (Nat.pow 2 k)):=rfl
theorem aiW:∀{k n:Nat} {l:List Value},Bn k n l=true->∃c r,l=c++r/\c.length=n/\∀v∈c,isByte v=true:=by
 intro k;induction k with
 |zero=>
  intro n l h;have h:Nat.beq n 0=true:=h;exact⟨[],l,rfl,(ez h).symm,fun v av=>by cases av⟩
 |succ k aP=>
  intro n l h;rw[aiX] at h;cases ai:Nat.blt n (Nat.pow 2 k) with
  |true=>rw[ai] at h;exact aP h
  |false=>
   rw[ai] at h;have jl:2 ^ k<=n:=by
    rcases hH n (2 ^ k) with q|q
    ·have:Nat.blt n (Nat.pow 2 k)=true:=mo q;rw[ai] at this;cases this
    ·exact q
   cases ad:xK k l with
   |none=>rw[ad] at h;cases h
   |some m=>
    rw[ad] at h;have h:Bn k (n -2 ^ k) m=true:=h;obtain⟨bb,rfl,aS,cl⟩:=aiY ad;obtain⟨br,r,rfl,cx,iu⟩:=aP h;have cx:br.length=n -2 ^ k:=cx;refine⟨bb++br,r,by simp,by rw[eX,aS,cx];omega,fun v av=>?_⟩;rcases nh.1 av with q|q
    ·exact cl v q
    ·exact iu v q
theorem avw{α:Type}:∀{c:List α} (r:List α),takeN c.length (c++r)=some c:=by
 intro c;induction c with
 |nil=>intro r;rfl
 |cons a c aP=>intro r;simp only[kR,Gm,takeN];rw[aP r]
theorem akA{src dst:TypeId}{x v:Value}(he:QL P H src dst x=some v):En P H src dst x=some v:=by
 unfold QL at he;unfold En;cases ad:P.underlying src with
 |none=>rw[ad] at he;cases he
 |some ts=>
  rw[ad] at he;cases ae:P.underlying dst with
  |none=>rw[ae] at he;cases ts<;>cases he
  |some sg=>
   rw[ae] at he;cases ts with
   |slice e=>
    cases sg with
    |string=>
     cases x with
     |slice b len cap=>
      cases b with
      |none=>cases he
      |some a=>
       simp only at he ⊢;cases aL:P.underlying e with
       |none=>rw[aL] at he;cases he
       |some aee=>
        rw[aL] at he;cases aG:a.spot with
        |some s=>rw[aG] at he;cases aee<;>first|(cases he;done)|(rename_i k;cases k<;>cases he)
        |none=>
         rw[aG] at he;cases aee with
         |int k=>
          cases k with
          |u8=>
           cases bt:H.mem.get a.block with
           |none=>rw[bt] at he;cases he
           |some mZ=>
            rw[bt] at he;cases mZ with
            |row cells el opn bF d' sh=>
             simp only at he ⊢;unfold aeg at he;cases au:Bn 21 len (pY a.off cells) with
             |false=>rw[au] at he;cases he
             |true=>
              rw[au,cd] at he;obtain⟨c,r,ax,aS,cl⟩:=aiW au;have aA:j4 H 1 len (.slice (some a) len 0)=some c:=by
               unfold j4;simp only[aG];cases len with
               |zero=>simp only;rw[w'.1 aS]
               |succ m=>
                simp only[bt,ha];rw[ax,<-aS];exact avw r
              simp only[aA,ag' c r cl,Am,aG,nM,dK];rw[aS,<-ax];exact he
            |_=>cases he
          |_=>cases he
         |_=>cases he
     |_=>cases he
    |_=>cases x<;>first|(cases he;done)|(rename_i b _ _;cases b<;>cases he)
   |_=>cases he
theorem akz{src dst:TypeId}{x v:Value}(he:QK P H src dst x=some v):En P H src dst x=some v:=by
 unfold QK at he;cases aq:TA x with
 |false=>rw[aq] at he;exact he
 |true=>rw[aq] at he;exact akA he
theorem akB(h:b8 P B w0 μ H w){src dst:TypeId}{x dV v:Value}(aa:bj μ x dV)(he:En P H src dst x=some v):
 ∃v',(convert src dst dV).run P w=.ok v' w/\bj μ v v':=by
 unfold En at he;cases hu:P.underlying src with
 |none=>rw[hu] at he;simp at he
 |some ds=>
  rw[hu] at he;cases au:P.underlying dst with
  |none=>rw[au] at he;simp at he
  |some Bp=>
   rw[au] at he;cases ds with
   |slice e=>
    cases Bp with
    |string=>
     cases x with
     |slice a len cap=>
      cases a with
      |none=>
       rw[aa.to];simp only at he;cases iv:P.underlying e with
       |none=>rw[iv] at he;simp at he
       |some Qp=>
        rw[iv] at he;cases Qp with
        |int k=>
         cases k with
         |u8=>
          simp only[cn] at he;subst he;refine⟨.string .empty,?_,.atom _ rfl⟩;rw[run_convert_bytes_string w src dst e _ _ _ hu iv au];simp[Conv.bytesToString]
         |_=>simp at he
        |_=>simp at he
      |some a=>
       have qg:a.spot=none:=by
        cases q:a.spot with
        |none=>rfl
        |some _=>simp[Am,q] at he
       obtain⟨id,off,L,gw,ek,rfl,a9,rfl,ah,_,_⟩:=aa.wW (.inl qg);simp only[Am,nM,dK] at he;cases iv:P.underlying e with
       |none=>rw[iv] at he;simp at he
       |some Qp=>
        rw[iv] at he;cases Qp with
        |int k=>
         cases k with
         |u8=>
          simp only at he;cases aA:j4 H 1 len (.slice (some ⟨id,off,none⟩) len 0) with
          |none=>rw[aA] at he;simp at he
          |some cells=>
           rw[aA] at he;simp only at he;cases ai:qN cells with
           |none=>rw[ai] at he;simp at he
           |some bs=>
            rw[ai] at he;simp only[cn] at he;subst he;have Mg:=Xb ai;have SQ:bj μ (.slice (some ⟨id,off,none⟩) len 0) (.slice (some ⟨L.r,off,none⟩) len 0):=.oc id off len 0 L a9 (by decide);obtain⟨l',b4,bZ⟩:=LF h SQ (m:=len) rfl (bU _) aA;rw[Mg] at b4;have dQ:=b4.bytes;subst dQ;have ER:(loadCells ⟨L.r,gw,none⟩ len).run P w=.ok ((bs.map fun b=>(b.toNat:Int)).map (Value.int .u8)).toArray w:=by
             by_cases aR:0<len
             ·rw[ah aR];have:=bZ w.drawn;simp only[Builtin.firstCells,ha] at this;rw[this];simp
             ·have B6:len=0:=by omega
              subst B6;have nr:bs.map (fun b=>Value.int .u8 (b.toNat:Int))=[]:=by
               rw[<-Mg];simp[j4] at aA;exact aA
              have:bs=[]:=by simpa using nr
              subst this;simp[loadCells,loadCellsFrom]
            refine⟨.string ⟨bs.toArray⟩,?_,.atom _ rfl⟩;rw[run_convert_bytes_string w src dst e _ _ _ hu iv au,run_bytesToString w ⟨L.r,gw,none⟩ len ek _ ER,foldl_push_bytes];congr 2
            have B4:((fun n:Int=>UInt8.ofNat n.toNat) ∘ fun b:UInt8=>(b.toNat:Int))=_root_.id:=by funext b;simp
            apply ByteArray.ext
            simp[B4]
         |_=>simp at he
        |_=>simp at he
     |_=>simp at he
    |_=>simp at he
   |_=>cases Bp<;>simp at he
theorem ale{r n:Nat}{c:Array Value}{e:TypeId}{f:Nat×Nat}(h:w.heap[r]?=some (.cells c e f))(aE:n≠0):
 w.freeze ⟨r,0,none⟩ n={w with heap:=w.heap.setIfInBounds r (.cells c e (if f.1==f.2 then(0,0+n) else(min f.1 0,max f.2 (0+n))))}:=by
 have ao:r<w.heap.size:=by
  rcases hH r w.heap.size with dh|dh
  ·exact dh
  ·rw[tw dh] at h;cases h
 unfold World.freeze;rw[aQ aE];congr 1
 apply Gh
 intro i;rw[afn,AU];by_cases ak:r=i
 ·subst ak;rw[aV rfl,aV rfl,h,aV ao];rfl
 ·simp[ak]
theorem akD(h:b8 P B w0 μ H w){tj it dH:TypeId}{p ic n po v:Value}(aw:bj μ p ic)(aE:bj μ n po)(he:QM P H tj p n=some (v,H')):
 ∃v' a8,(Builtin.unsafeString_ #[tj,it] dH #[ic,po]).run P w=.ok v' a8/\b8 P B w0 μ H' a8/\Step μ μ H H'/\bj μ v v':=by
 unfold QM at he;cases p with
 |pointer a=>
  cases n with
  |int k i=>
   cases k with
   |i64=>
    obtain rfl:=aE.rb;cases i with
    |ofNat m=>
     cases m with
     |zero=>
      cases a with
      |none=>
       rw[aw.FN];simp only[cn,dr] at he;obtain⟨rfl,rfl⟩:=he;exact⟨_,w,Lib.run_unsafeString_none w tj it dH none,h,Step.refl _ _,.atom _ rfl⟩
      |some a=>
       obtain⟨id,off,L,rfl,a9,rfl⟩:=aw.pu;simp only[cn,dr] at he;obtain⟨rfl,rfl⟩:=he;exact⟨_,w,Lib.run_unsafeString_none w tj it dH _,h,Step.refl _ _,.atom _ rfl⟩
     |succ m=>
      cases a with
      |none=>exact absurd (show none=some (v,H') from he) (by simp)
      |some a=>
       obtain⟨id,off,L,rfl,a9,rfl⟩:=aw.pu;simp only at he;cases hu:P.underlying tj with
       |none=>rw[hu] at he;simp at he
       |some d=>
        rw[hu] at he;cases d with
        |pointer u=>
         cases hm:H.mem.get id with
         |none=>rw[hm] at he;simp at he
         |some b=>
          rw[hm] at he;cases b with
          |row cells e opn bF d' sh=>
           simp only at he;cases aC:(Nat.beq e u&&Nat.beq (P.cellsOf e) 1&&Nat.ble (m+1) 1000000&&!Nat.blt id H.bL&&Nat.beq off 0&&!sh) with
           |false=>rw[aC] at he;simp at he
           |true=>
            rw[aC] at he;simp only[nM,dK] at he;simp only[gr,sm] at aC;obtain⟨⟨⟨⟨⟨aL,aG⟩,bt⟩,du⟩,fU⟩,ih⟩:=aC;have aL:=ez aL;subst aL;have aG:=ez aG;have bt:=h3 bt;have du:=W9 du;have fU:=ez fU;subst fU;cases aI:takeN (m+1) cells with
            |none=>rw[aI] at he;simp at he
            |some l=>
             rw[aI] at he;simp only at he;cases ai:qN l with
             |none=>rw[ai] at he;simp at he
             |some bs=>
              rw[ai] at he;simp only at he;cases SY:H.upd id (.row cells e opn bF (bif sh then tZ else Nat.max d' (m+1)) sh) with
              |none=>rw[SY] at he;simp at he
              |some H0=>
               rw[SY] at he;simp only at he;cases Sb:(bif opn then Ai H0 id bF else some H0) with
               |none=>rw[Sb] at he;simp at he
               |some H1=>
               rw[Sb] at he;simp only[cn,dr] at he;obtain⟨rfl,rfl⟩:=he;obtain⟨c,f,b4,bZ,cH,fX,gf,hc,gU⟩:=h.row a9 hm;obtain⟨t1,t2,t3⟩:=F0 aI;have hle:=Xb ai;have sV:bs.length=m+1:=by have:=cC List.length hle;simp at this;omega
               have dQ:b3 μ l ((c.toList.take cells.length).take (m+1)):=by rw[t1];exact hc.take (m+1)
               rw[hle] at dQ;have am8:=dQ.bytes;have h':w.shape? L.r=some (e,c.size):=by simp[World.shape?,b4]
               have g8:=Lib.run_unsafeString_row (P:=P) w tj it dH e hu aG L.r c.size h' bs (by intro q;rw[q] at sV;simp at sV) (by omega) (by omega) (fun j x aX=>by
                rw[Addr.rG,j2,cell_of_row b4];have:((c.toList.take cells.length).take (m+1))[j]?=some (Value.int .u8 (x.toNat:Int)):=by rw[am8,lC,aX];rfl
                rw[jY] at this;split at this
                ·rw[jY] at this;split at this
                 ·simpa using this
                 ·cases this
                ·cases this)
               rw[sV] at g8;have k2:=ale (n:=m+1) b4 (by omega);rw[k2] at g8;have ai:kf P μ L (.row cells e opn bF (bif sh then tZ else Nat.max d' (m+1)) sh) (.cells c e (if f.1==f.2 then(0,0+(m+1)) else(min f.1 0,max f.2 (0+(m+1))))):=by
                refine⟨rfl,bZ,cH,fX,gf,fun i v v' q dG=>hc.2 i v v' q ?_,?_⟩
                ·have ak:=(ff.1 q).1;rw[jY,aV ak];simpa using dG
                ·cases sh with
                 |true=>cases ih
                 |false=>
                  simp only[dK];have Cc:m+1<=Nat.max d' (m+1):=Nat.le_max_right _ _;have azw:d'<=Nat.max d' (m+1):=Nat.le_max_left _ _;rcases gU.2 rfl with q|q
                  ·rw[aV (by simpa using q)];exact⟨fun off _ _ ae=>by simp at ae;omega,fun _=>.inr (by simpa using Cc)⟩
                  ·by_cases q2:f.1=f.2
                   ·rw[aV (by simpa using q2)];exact⟨fun off _ _ ae=>by simp at ae;omega,fun _=>.inr (by simpa using Cc)⟩
                   ·rw[aQ (by simpa using q2)];have:max f.2 (0+(m+1))<=Nat.max d' (m+1):=Nat.max_le.2 ⟨by omega,by omega⟩;exact⟨fun off _ _ ae=>by simp only at ae;omega,fun _=>.inr this⟩
               obtain⟨dq,c2⟩:=h.ae9 a9 du hm rfl SY Sb ai;exact⟨_,_,g8,dq,c2,.atom _ rfl⟩
          |_=>simp at he
        |_=>simp at he
    |negSucc m=>cases a<;>simp at he
   |_=>cases a<;>simp at he
  |_=>cases a<;>simp at he
 |_=>simp at he
theorem strCells_eq(l:List UInt8):strCells l=l.map fun b=>Value.int .u8 b.toNat:=by
 induction l with
 |nil=>rfl
 |cons b l aP=>show Value.int .u8 (.ofNat b.toNat)::strCells l=_;rw[aP];rfl
theorem ar.arm{H H1:ar}{cells:List Value}{e:TypeId}{sh:Bool}{id:Nat}(aE:H.oO cells e sh=some (id,H1)):H1.an=H.an+1:=by
 unfold ar.oO at aE;cases aA:H.wH with
 |none=>rw[aA] at aE;cases aE
 |some p=>
  obtain⟨f,bW⟩:=p;rw[aA] at aE;have ad:=(ar.pp aE).2.1;have ae:=(ar.Nd aA).2.1;omega
theorem akx{src dst:TypeId}{s:ByteArray}{v:Value}{H1:ar}(he:xV P H src dst s=some (v,H1)):H1.an=H.an+1:=by
 unfold xV at he;split at he
 ·split at he
  ·rename_i e _ _ _ _;cases ai:Nat.beq (P.cellsOf e) 1 with
   |false=>rw[ai] at he;cases he
   |true=>
    rw[ai,cd] at he;cases aE:H.oO (strCells s.data.toList) e true with
    |none=>rw[aE] at he;cases he
    |some p=>
     obtain⟨id,bW⟩:=p;rw[aE] at he;have he:some (Value.slice (some ⟨id,0,none⟩) s.data.toList.length cO,bW)=some (v,H1):=he;simp only[cn,dr] at he;obtain⟨_,rfl⟩:=he;exact ar.arm aE
  ·cases he
 ·cases he
theorem aky(h:b8 P B w0 μ H w){src dst:TypeId}{s:ByteArray}{v:Value}{H1:ar}(he:xV P H src dst s=some (v,H1)):
 ∃v' a8 bh,(convert src dst (.string s)).run P w=.ok v' a8/\b8 P B w0 bh H1 a8/\Step μ bh H H1/\bj bh v v':=by
 unfold xV at he;split at he
 ·rename_i e ad ae;split at he
  ·rename_i aD;cases ai:Nat.beq (P.cellsOf e) 1 with
   |false=>rw[ai] at he;cases he
   |true=>
    rw[ai,cd] at he;cases aE:H.oO (strCells s.data.toList) e true with
    |none=>rw[aE] at he;cases he
    |some p=>
     obtain⟨id,bW⟩:=p;rw[aE] at he;have he:some (Value.slice (some ⟨id,0,none⟩) s.data.toList.length cO,bW)=some (v,H1):=he;simp only[cn,dr] at he;obtain⟨rfl,rfl⟩:=he;have Mg:=ez ai;have jl:=grownCap_ge w s.size 0 e;have eb:s.size=s.data.toList.length:=by rw[Array.length_toList];rfl
     have mz:(bytesRow s (grownCap w s.size 0 e)).size=grownCap w s.size 0 e:=by
      unfold bytesRow;have:s.data.size=s.size:=rfl;simp[this];omega
     obtain⟨ba,bd,rfl⟩:=h.drew.TJ (o:=.cells (bytesRow s (grownCap w s.size 0 e)) e ((bytesRow s (grownCap w s.size 0 e)).size,(bytesRow s (grownCap w s.size 0 e)).size+1)) (L:=⟨w.heap.size,grownCap w s.size 0 e,1⟩) aE rfl (fun f=>by
      refine⟨rfl,mz,Mg,?_,(fun q=>by cases q),fun i u iK x y=>?_,⟨fun off ah ad ae=>?_,(fun q=>by cases q)⟩⟩
      ·rw[strCells_eq,j0,<-eb];exact jl
      ·rw[strCells_eq,lC] at x;obtain⟨b,pc,rfl⟩:=xe.1 x;have ak:i<s.data.size:=by
        have:=(ff.1 pc).1;simpa using this
       unfold bytesRow at y;rw[VF,aV (by simpa using ak)] at y;rw[Array.getElem?_map,<-Array.getElem?_toList,pc] at y;simp only[KV,cn] at y;subst y;exact .atom _ rfl
      ·rw[mz] at ad;show off<0;have:off<grownCap w s.size 0 e:=ah;omega)
     refine⟨_,_,_,run_bytes_of_string w src dst e s ad ae aD,ba,bd,?_⟩;rw[<-eb];exact .qA H.an 0 s.size _ ⟨w.heap.size,grownCap w s.size 0 e,1⟩ (bY.kw _ _ _) jl (by simp)
  ·cases he
 ·cases he
end
end
end Go.Cre
namespace Go.Cre
noncomputable section
open Go.RowKit
section
variable {P:Program}{B:Nat->Prop}{w0 w:World}{μ:bY}{H H':ar}{T:a0 Value}{n:Nat}{tmps:Array Value}
def dc(tmps:Array Value):Operand->Value
 |.tmp t=>tmps.getD t undef
 |.const v=>v
 |.global g=>.pointer (some ⟨g,0,none⟩)
 |.func f=>.func (.func f) #[] #[]
theorem uP(h:b8 P B w0 μ H w)(aI:kF μ T n tmps){x:Operand}{v:Value}(he:a3 T H x=some v):bj μ v (dc tmps x):=by
 cases x with
 |tmp t=>exact aI.2 t v he
 |const c=>
  have he:(bif plain c then some c else none)=some v:=he;cases aw:plain c with
  |false=>rw[aw] at he;simp at he
  |true=>rw[aw] at he;simp at he;subst he;exact qu aw
 |global g=>
  have he:FL H g=some v:=he;unfold FL at he;cases ay:Nat.blt g H.bL with
  |false=>rw[ay] at he;simp at he
  |true=>
   rw[ay,cd] at he;have ay:g<H.bL:=h3 ay;cases hm:H.mem.get g with
   |none=>rw[hm] at he;simp at he
   |some b=>
    rw[hm] at he;cases b with
    |row c e o f z s=>
     simp only[cn] at he;subst he;obtain⟨L,a9⟩:=h.ue g c e o f z s ay hm;have:=bj.ptr (μ:=μ) g 0 L a9;rw[h.own g L a9 ay] at this;exact this
    |_=>simp at he
 |func f=>
  have he:some (Value.func (.func f) #[] #[])=some v:=he;injection he with he;subst he
  exact .func _ _ _ _ _ rfl rfl rfl (fun i v v' q=>by simp at q) (fun i v v' q=>by simp at q)
theorem JH(h:b8 P B w0 μ H w)(aI:kF μ T n tmps):∀{l:List Operand} {vs:List Value},fL T H l=some vs->b3 μ vs (l.map (dc tmps)):=by
 intro l;induction l with
 |nil=>intro vs he;simp[fL] at he;subst he;exact b3.nil _
 |cons x l aP=>
  intro vs he;simp only[fL] at he;cases aa:a3 T H x with
  |none=>rw[aa] at he;simp at he
  |some v=>
   rw[aa] at he;cases aq:fL T H l with
   |none=>rw[aq] at he;simp at he
   |some r=>rw[aq] at he;simp at he;subst he;exact b3.cons (uP h aI aa) (aP aq)
theorem asv:∀{l:List Operand} {vs:List Value},fL T H l=some vs->∀x∈l,∃v,a3 T H x=some v/\v∈vs:=by
 intro l;induction l with
 |nil=>intro vs he x aa;simp at aa
 |cons y l aP=>
  intro vs he x aa;simp only[fL] at he;cases ap:a3 T H y with
  |none=>rw[ap] at he;simp at he
  |some v=>
   rw[ap] at he;cases aq:fL T H l with
   |none=>rw[aq] at he;simp at he
   |some r=>
    rw[aq] at he;simp at he;subst he;rcases gj.1 aa with rfl|aa
    ·exact⟨v,ap,by simp⟩
    ·obtain⟨u,a,b⟩:=aP aq x aa;exact⟨u,a,by simp[b]⟩
theorem acw(h:b8 P B w0 μ H w)(aI:kF μ T n tmps):∀{l:List (Nat×Operand)} {ps:List (Nat×Value)},lV T H l=some ps->xf μ ps (l.map fun(i,x)=>(i,dc tmps x)):=by
 intro l;induction l with
 |nil=>intro vs he;simp[lV] at he;subst he;exact⟨rfl,fun i p ic q=>by simp at q⟩
 |cons x l aP=>
  intro vs he;obtain⟨i,x⟩:=x;simp only[lV] at he;cases aa:a3 T H x with
  |none=>rw[aa] at he;simp at he
  |some v=>
   rw[aa] at he;cases aq:lV T H l with
   |none=>rw[aq] at he;simp at he
   |some r=>
    rw[aq] at he;simp at he;subst he;have:=aP aq;refine⟨by simp[this.1],fun j p ic q dG=>?_⟩;cases j with
    |zero=>simp at q dG;subst q;subst dG;exact⟨rfl,uP h aI aa⟩
    |succ j=>exact this.2 j p ic (by simpa using q) (by simpa using dG)
def oq(P:Program)(B:Nat->Prop)(w0:World)(call:eI)(aJ:hl)(μ:bY)(H:ar)(w:World)(s:Sem Next):cP->Prop
 |.val v H'=>(∃v' a8 bh,s.run P w=.ok (.value v') a8/\b8 P B w0 bh H' a8/\Step μ bh H H'/\bj bh v v')\/
  (∃f args cb,s.run P w=(callFunc f cb.toArray).run P w/\b3 μ args cb/\call f args H=some (.returned v,H'))\/
  (∃l L args cb,μ l=some L/\s.run P w=(Instr.yield L.r cb.toArray).run P w/\b3 μ args cb/\aJ l args H=some (.returned v,H'))
 |.skip H'=>∃a8,s.run P w=.ok .skip a8/\b8 P B w0 μ H' a8/\Step μ μ H H'
 |.gP d=>∃lf cap ek args cb,d={target:=.fn lf cap,args:=args.toArray}/\s.run P w=.ok (.defer {target:=.fn lf ek,args:=cb.toArray}) w/\yH lf=true/\b3 μ cap.toList ek.toList/\b3 μ args cb
 |.gx chain H'=>(∃v v',chain=[{v:=v,recovered:=false}]/\H'=H/\s.run P w=.halt (.panic v') w/\bj μ v v')\/
  (∃f args cb,s.run P w=(callFunc f cb.toArray).run P w/\b3 μ args cb/\call f args H=some (.panicked chain,H'))\/
  (∃l L args cb,μ l=some L/\s.run P w=(Instr.yield L.r cb.toArray).run P w/\b3 μ args cb/\aJ l args H=some (.panicked chain,H'))
 |.Av=>s.run P w=.ok .recover w
variable {call:eI}{aJ:hl}{o:Oper}{S:aZ}
theorem qq{s:Sem Value}{x:Option Value}{r:cP}(h:b8 P B w0 μ H w)(hs:∀v,x=some v->∃v',s.run P w=.ok v' w/\bj μ v v')(he:g9 x H=some r):
 oq P B w0 call aJ μ H w (do pure (.value (<-s))) r:=by
 cases x with
 |none=>cases he
 |some v=>
  have he:some (cP.val v H)=some r:=he;injection he with he;subst he
  obtain⟨v',a,b⟩:=hs v rfl;exact .inl ⟨v',w,μ,by simp[a],h,Step.refl _ _,b⟩
theorem yP{s:Sem Value}{x:Option (Value×ar)}{r:cP}(hs:∀v H',x=some (v,H')->∃v' a8 bh,s.run P w=.ok v' a8/\b8 P B w0 bh H' a8/\Step μ bh H H'/\bj bh v v')(he:nJ x=some r):
 oq P B w0 call aJ μ H w (do pure (.value (<-s))) r:=by
 cases x with
 |none=>cases he
 |some p=>
  obtain⟨v,H'⟩:=p;have he:some (cP.val v H')=some r:=he;injection he with he;subst he
  obtain⟨v',a8,bh,a,b,c,d⟩:=hs v H' rfl;exact .inl ⟨v',a8,bh,by simp[a],b,c,d⟩
theorem asn{s:Sem Unit}{x:Option ar}{r:cP}(hs:∀H',x=some H'->∃a8,s.run P w=.ok () a8/\b8 P B w0 μ H' a8/\Step μ μ H H')(he:L4 x=some r):
 oq P B w0 call aJ μ H w (do s;pure .skip) r:=by
 cases x with
 |none=>cases he
 |some H'=>
  have he:some (cP.skip H')=some r:=he;injection he with he;subst he
  obtain⟨a8,a,b,c⟩:=hs H' rfl;exact⟨a8,by simp[a],b,c⟩
theorem Hw(h:b8 P B w0 μ H w)(aI:kF μ T n tmps)(SN:∀cs b,o.op≠.select cs b){r:cP}(he:fl P T H o=some r):oq P B w0 call aJ μ H w (execOp (dc tmps) o) r:=by
 unfold fl at he;cases ah:fL T H o.op.operands.toList with
 |none=>rw[ah] at he;simp at he
 |some vs=>
  rw[ah] at he;simp only at he;cases aw:vs.all plain with
  |false=>rw[aw] at he;simp at he
  |true=>
   rw[aw,cd] at he;have anb:execOp (qs T H) o=execOp (dc tmps) o:=execOp_congr o SN fun x aa=>by
    obtain⟨v,a,b⟩:=asv ah x (by simpa using aa);unfold qs;rw[a];exact(NI (rA.1 aw v b) (uP h aI a)).symm
   rw[anb] at he;cases g7:eR P (execOp (dc tmps) o) with
   |none=>rw[g7] at he;simp at he
   |some an=>
    rw[g7] at he;have g8:=X8 g7 w;cases an with
    |value v=>
     simp only at he;cases av:plain v with
     |false=>rw[av] at he;simp at he
     |true=>
      rw[av,cd] at he;simp only[cn] at he;subst he;exact .inl ⟨v,w,μ,g8,h,Step.refl _ _,qu av⟩
    |skip=>
     simp only[cn] at he;subst he;exact⟨w,g8,h,Step.refl _ _⟩
    |_=>simp at he
end
end
end Go.Cre
namespace Go.Cre
noncomputable section
open Go.RowKit
section
variable {P:Program}{B:Nat->Prop}{w0 w:World}{μ:bY}{H H':ar}{n:Nat}{tmps:Array Value}
variable {call:eI}{aJ:hl}{o:Oper}{S:aZ}
theorem ub{α:Type}(n:Int)(k:Int->α):rN n k=k n:=by
 cases n with
 |ofNat m=>cases m<;>rfl
 |negSucc m=>cases m<;>rfl
theorem Gb(k:IntKind)(n:Int):AO k n=k.wrap n:=by
 unfold AO;cases n with
 |ofNat m=>
  simp only
  cases ai:Nat.blt m (uJ k) with
  |false=>rfl
  |true=>
   have ai:m<uJ k:=h3 ai;simp only[cd];cases k<;>simp only[uJ] at ai<;>simp[IntKind.wrap,IntKind.bits,IntKind.signed]<;>omega
 |negSucc m=>
  simp only
  cases ai:(k.signed&&Nat.blt m (uJ k)) with
  |false=>rfl
  |true=>
   simp only[gr] at ai;have hs:=ai.1;have ai:m<uJ k:=h3 ai.2;simp only[cd];cases k with
   |i64=>simp only[uJ] at ai;rw[IntKind.wrap_i64,Int.negSucc_eq];omega
   |i32=>simp only[uJ] at ai;rw[IntKind.wrap_i32,Int.negSucc_eq];omega
   |i8=>simp[uJ] at ai
   |i16=>simp[uJ] at ai
   |_=>cases hs
theorem Fc(a b:Int):q' a b=decide (a<b):=by
 cases a with
 |ofNat a=>cases b with
  |ofNat b=>
   simp only[q'];have:Nat.blt a b=decide (a<b):=by
    by_cases h:a<b
    ·rw[jx h];exact mo h
    ·rw[fW h];cases q:Nat.blt a b
     ·rfl
     ·exact absurd (h3 q) h
   rw[this];simp
  |negSucc b=>simp[q'];omega
 |negSucc a=>cases b with
  |ofNat b=>simp[q'];omega
  |negSucc b=>
   simp only[q'];by_cases h:b<a
   ·have:Nat.blt b a=true:=mo h;rw[this,eq_comm,LB];omega
   ·have:Nat.blt b a=false:=by
     cases q:Nat.blt b a
     ·rfl
     ·exact absurd (h3 q) h
    rw[this,eq_comm,ai1];omega
theorem Fb(a b:Int):q9 a b=(a==b):=by
 rw[qG,beq_iff_eq];cases a with
 |ofNat a=>cases b with
  |ofNat b=>simp only[q9];constructor
            ·intro h;rw[ez h]
            ·intro h;injection h with h;rw[h];exact hT b
  |negSucc b=>simp[q9]
 |negSucc a=>cases b with
  |ofNat b=>simp[q9]
  |negSucc b=>simp only[q9];constructor
              ·intro h;rw[ez h]
              ·intro h;injection h with h;rw[h];exact hT b
theorem aaA{a b:IntKind}(h:mD a b=true):a=b:=by cases a<;>cases b<;>first|rfl|cases h
theorem Ax(H:ar)(b:Bool):yX H b=some (.val (.bool b) H):=by cases b<;>rfl
theorem apy(h:b8 P B w0 μ H w){k:IntKind}{a b:Int}{AF:Option cP}{op:BinOp}{t:TypeId}{x y:Operand}{r:cP}(aa:dc tmps x=.int k a)(ap:dc tmps y=.int k b)(ah:∃ru,o.op=.binOp op t x y ru)
 (EY:AF=some r->oq P B w0 call aJ μ H w (execOp (dc tmps) o) r)(he:jJ H k a b AF op=some r):oq P B w0 call aJ μ H w (execOp (dc tmps) o) r:=by
 obtain⟨ru,ah⟩:=ah;have ay:(eqGuard op t x y (.int k a) (.int k b)).run P w=.ok () w:=by cases op<;>simp[eqGuard]
 have fin:∀v,(binOp op t (.int k a) (.int k b)).run P w=.ok v w->isAtom v=true->some (cP.val v H)=some r->oq P B w0 call aJ μ H w (execOp (dc tmps) o) r:=by
  intro v av aF ao;injection ao with ao;subst ao
  refine .inl ⟨v,w,μ,?_,h,Step.refl _ _,.atom _ aF⟩;simp[execOp,ah,aa,ap,ay,av]
 cases op with
 |add=>simp only[jJ,ub,Gb,qy] at he;exact fin _ (by simp[binOp,Op.intArith]) rfl he
 |sub=>simp only[jJ,ub,Gb,qy] at he;exact fin _ (by simp[binOp,Op.intArith]) rfl he
 |mul=>simp only[jJ,ub,Gb,qy] at he;exact fin _ (by simp[binOp,Op.intArith]) rfl he
 |eql=>simp only[jJ,Ax,Fb] at he;exact fin _ (by simp[binOp,Op.intCmp]) rfl he
 |neq=>simp only[jJ,Ax,Fb] at he;exact fin _ (by simp[binOp,Op.intCmp,bne]) rfl he
 |lss=>simp only[jJ,Ax,Fc] at he;exact fin _ (by simp[binOp,Op.intCmp]) rfl he
 |leq=>simp only[jJ,Ax,Fc] at he;exact fin _ (by simp[binOp,Op.intCmp];rw[<-decide_not];exact pX.2 (by omega)) rfl he
 |gtr=>simp only[jJ,Ax,Fc] at he;exact fin _ (by simp[binOp,Op.intCmp]) rfl he
 |geq=>simp only[jJ,Ax,Fc] at he;exact fin _ (by simp[binOp,Op.intCmp];rw[<-decide_not];exact pX.2 (by omega)) rfl he
 |_=>exact EY he
end
end
end Go.Cre
namespace Go.Cre
noncomputable section
open Go.RowKit
section
variable {P:Program}{B:Nat->Prop}{w0 w:World}{μ:bY}{H H':ar}{n:Nat}{tmps:Array Value}
variable {call:eI}{aJ:hl}{o:Oper}{S:aZ}
theorem bj.Ev{fn:Fn}{a b:Array Value}{v:Value}(h:bj μ (.func fn a b) v):
 (∃b0 b',v=.func fn b0 b'/\yH fn=true/\b3 μ a.toList b0.toList/\b3 μ b.toList b'.toList)\/(∃l L,fn=.yield l/\μ l=some L/\a=#[]/\b=#[]/\v=.func (.yield L.r) #[] #[]):=by
 cases h with
 |atom _ q=>simp[isAtom] at q
 |func fn a b b0 b' ap aF ai MB z'=>
  exact .inl ⟨b0,b',rfl,ap,⟨by simpa using aF,fun i v v' x y=>MB i v v' (by simpa using x) (by simpa using y)⟩,⟨by simpa using ai,fun i v v' x y=>z' i v v' (by simpa using x) (by simpa using y)⟩⟩
 |yield l L a9=>exact .inr ⟨l,L,rfl,a9,rfl,rfl,rfl⟩
theorem LG{recv recv':Value}{name:String}{rest yW:List Value}{f:FuncId}{bO:List Value}(ao:bj μ recv recv')(aq:b3 μ rest yW)(he:zL P H recv name rest=some (f,bO)):
 ∃jf,(callMethod recv' name yW.toArray).run P w=(callFunc f jf.toArray).run P w/\b3 μ bO jf:=by
 unfold zL at he;cases recv with
 |iface t v=>
  obtain⟨v',rfl,av⟩:=ao.yq;simp only at he;cases ak:P.info? t with
  |none=>rw[ak] at he;simp at he
  |some i=>
   rw[ak] at he;simp only at he;cases hm:i.methods.find? (·.name==name) with
   |none=>rw[hm] at he;simp at he
   |some m=>
    rw[hm] at he;simp only at he;cases aw:m.path.isEmpty with
    |false=>rw[aw] at he;simp at he
    |true=>
     rw[aw] at he;simp only[nM,dK] at he;have aoe:m.path=#[]:=by simpa using aw
     cases aA:m.func with
     |none=>rw[aA] at he;simp at he
     |some q=>
      obtain⟨g,yT⟩:=q;rw[aA] at he;simp only at he;have key:∀iK,(∀Jm,(receiverAt t (.val v') yT Jm).run P w=.ok iK w)->f=g->(callMethod (.iface t v') name yW.toArray).run P w=(callFunc f (iK::yW).toArray).run P w:=by
       intro iK IG ant;subst ant;have an1:(method (P.types.size+Made.depth) t v' name).run P w=.ok (f,iK) w:=by
        have:P.types.size+Made.depth=(P.types.size+99)+1:=rfl;rw[this];generalize P.types.size+99=k;simp[method,typeInfo,ak,hm,aoe,follow,aA,IG]
       simp[callMethod,an1]
      cases hu:P.underlying t with
      |none=>rw[hu] at he;simp at he
      |some d=>
       rw[hu] at he;cases d with
       |pointer elem=>
        cases yT with
        |true=>
         simp only[cn,dr] at he;obtain⟨rfl,rfl⟩:=he;exact⟨v'::yW,key v' (fun Jm=>by simp[receiverAt,e2 hu,Place.get]) rfl,b3.cons av aq⟩
        |false=>simp at he
       |_=>
        cases yT with
        |true=>simp at he
        |false=>
         simp only[cn,dr] at he;obtain⟨rfl,rfl⟩:=he;exact⟨v'::yW,key v' (fun Jm=>by simp[receiverAt,e2 hu,Place.get]) rfl,b3.cons av aq⟩
 |_=>simp at he
theorem QJ{fn:Fn}{args cb cap ek:List Value}{f:FuncId}{bO:List Value}(aF:b3 μ args cb)(aC:b3 μ cap ek)(he:kY P H fn args cap=some (f,bO)):
 ∃jf,(invoke (.fn fn ek.toArray) cb.toArray).run P w=(callFunc f jf.toArray).run P w/\b3 μ bO jf:=by
 unfold kY at he;cases fn with
 |func g=>
  simp only[cn,dr] at he;obtain⟨rfl,rfl⟩:=he;refine⟨cb++ek,?_,aF.append aC⟩;simp[invoke]
 |method name=>
  cases args with
  |nil=>simp at he
  |cons r rest=>
   obtain⟨cv,yW,rfl,ad,ae⟩:=aF.jK;obtain⟨jf,a,b⟩:=LG (w:=w) ad ae he;refine⟨jf,?_,b⟩;rw[<-a];simp[invoke]
 |methodOf t name=>
  cases args with
  |nil=>simp at he
  |cons r rest=>
   obtain⟨cv,yW,rfl,ad,ae⟩:=aF.jK;simp only at he;cases hu:P.underlying t with
   |none=>rw[hu] at he;simp at he
   |some d=>
    rw[hu] at he;by_cases au:∃M8,d=.interface M8
    ·obtain⟨M8,rfl⟩:=au;obtain⟨jf,a,b⟩:=LG (w:=w) ad ae he;refine⟨jf,?_,b⟩;rw[<-a];simp[invoke,e2 hu]
    ·have q1:zL P H (.iface t r) name rest=some (f,bO):=by
      cases d<;>first|exact he|exact absurd ⟨_,rfl⟩ au
     obtain⟨jf,a,b⟩:=LG (w:=w) (.iface t r cv ad) ae q1;refine⟨jf,?_,b⟩;rw[<-a];cases d<;>first|exact absurd ⟨_,rfl⟩ au|simp[invoke,e2 hu]
 |_=>simp at he
theorem X2(h:b8 P B w0 μ H w)(aI:kF μ S.T n tmps){c:Call}{r:cP}(aC:o.op=.call c)(z8:∀b,c.callee≠.builtin b)(he:nm P call aJ S.T H c=some r):oq P B w0 call aJ μ H w (execOp (dc tmps) o) r:=by
 unfold nm at he;have n1:∀args,fL S.T H c.args.toList=some args->b3 μ args (c.args.map (dc tmps)).toList:=fun args q=>by
  have:=JH h aI q;simpa using this
 have fin:∀f bO jf,(execOp (dc tmps) o).run P w=(callFunc f jf.toArray).run P w->b3 μ bO jf->oA (call f bO H)=some r->oq P B w0 call aJ μ H w (execOp (dc tmps) o) r:=by
  intro f bO jf ad ae aD;cases hO:call f bO H with
  |none=>rw[hO] at aD;simp[oA] at aD
  |some p=>
   obtain⟨e,H1⟩:=p;rw[hO] at aD;cases e with
   |returned v=>simp[oA] at aD;subst aD;exact .inr (.inl ⟨f,bO,jf,ad,ae,hO⟩)
   |panicked bw=>simp[oA] at aD;subst aD;exact .inr (.inl ⟨f,bO,jf,ad,ae,hO⟩)
   |outgrown=>simp[oA] at aD
 cases aF:fL S.T H c.args.toList with
 |none=>rw[aF] at he;simp at he
 |some args=>
  rw[aF] at he;simp only at he;have aq:=n1 args aF;cases m4:c.callee with
  |builtin b=>exact absurd m4 (z8 b)
  |invoke recv name=>
   rw[m4] at he;simp only at he;cases ao:a3 S.T H recv with
   |none=>rw[ao] at he;simp at he
   |some UG=>
    rw[ao] at he;simp only at he;cases hm:zL P H UG name args with
    |none=>rw[hm] at he;simp at he
    |some p=>
     obtain⟨f,bO⟩:=p;rw[hm] at he;obtain⟨jf,ba,bd⟩:=LG (w:=w) (uP h aI ao) aq hm;refine fin f bO jf ?_ bd he;rw[<-ba];have hb:(#[dc tmps recv]++Array.map (dc tmps) c.args)[0]?=some (dc tmps recv):=by rw[afm (by simp)];rfl
     have ax:(Array.map (dc tmps) c.args).extract 0 c.args.size=(List.map (dc tmps) c.args.toList).toArray:=by apply rv;simp;exact cU (by simp)
     simp[execOp,aC,resolve,m4,invoke,hb,ax]
  |value QX=>
   rw[m4] at he;simp only at he;cases aA:a3 S.T H QX with
   |none=>rw[aA] at he;simp at he
   |some lf=>
    rw[aA] at he;have k2:=uP h aI aA;cases lf with
    |func fn first captured=>
     rcases k2.Ev with⟨b0,b',av,wj,ad,ae⟩|⟨l,L,rfl,a9,rfl,rfl,av⟩
     ·have q1:(match kY P H fn (first.toList++args) captured.toList with|some (f,bO)=>oA (call f bO H)|none=>none)=some r:=by
       cases fn<;>first|exact he|(simp[yH] at wj)
      cases hm:kY P H fn (first.toList++args) captured.toList with
      |none=>rw[hm] at q1;simp at q1
      |some p=>
       obtain⟨f,bO⟩:=p;rw[hm] at q1;obtain⟨jf,ba,bd⟩:=QJ (w:=w) (ad.append aq) ae hm;refine fin f bO jf ?_ bd q1;rw[<-ba];have ax:(b0.toList++(c.args.map (dc tmps)).toList).toArray=b0++c.args.map (dc tmps):=by apply rv;simp
       have aS:b'.toList.toArray=b':=by simp
       rw[ax,aS];simp[execOp,aC,resolve,m4,Deferred.ofValue,av]
     ·simp only[Array.isEmpty_empty,w4,cd] at he;cases ap:aJ l args H with
      |none=>rw[ap] at he;simp[Gc] at he
      |some p=>
       obtain⟨e,H1⟩:=p;rw[ap] at he;cases e with
       |returned v=>
        simp[Gc] at he;subst he;refine .inr (.inr ⟨l,L,args,(c.args.map (dc tmps)).toList,a9,?_,aq,ap⟩);have ax:(List.map (dc tmps) c.args.toList).toArray=c.args.map (dc tmps):=by apply rv;simp
        simp[execOp,aC,resolve,m4,Deferred.ofValue,av,invoke,ax]
       |panicked bw=>
        simp[Gc] at he;subst he;refine .inr (.inr ⟨l,L,args,(c.args.map (dc tmps)).toList,a9,?_,aq,ap⟩);have ax:(List.map (dc tmps) c.args.toList).toArray=c.args.map (dc tmps):=by apply rv;simp
        simp[execOp,aC,resolve,m4,Deferred.ofValue,av,invoke,ax]
       |outgrown=>simp[Gc] at he
    |_=>simp at he
end
end
end Go.Cre
namespace Go.Cre
noncomputable section
open Go.RowKit
section
variable {P:Program}{B:Nat->Prop}{w0 w:World}{μ:bY}{H H':ar}{n:Nat}{tmps:Array Value}
variable {call:eI}{aJ:hl}{o:Oper}{S:aZ}
theorem apF{α:Type}{l:List α}(h:isNil l=true):l=[]:=by
 cases l with
 |nil=>rfl
 |cons a l=>cases h
theorem aiV{α:Type}(k:Nat)(l:List α):xJ (k+1) l=Option.rec (motive:=fun _=>Option (List α)) none (xJ k) (xJ k l):=rfl
theorem aiU{α:Type}:∀{k:Nat} {l r:List α},xJ k l=some r->l.length=2 ^ k+r.length:=by
 intro k;induction k with
 |zero=>
  intro l r h;cases l with
  |nil=>cases h
  |cons v l=>
   have h:some l=some r:=h;injection h with h;subst h;simp;omega
 |succ k aP=>
  intro l r h;rw[aiV] at h;cases ad:xJ k l with
  |none=>rw[ad] at h;cases h
  |some m=>
   rw[ad] at h;have h:xJ k m=some r:=h;have ax:=aP ad;have aS:=aP h;rw[fP];omega
theorem ai0{α:Type}(k n:Nat)(l:List α):Bo (k+1) n l=Option.rec (motive:=fun _=>Option Nat) (Bo k n l) (fun r=>Bo k (Nat.add n (Nat.pow 2 k)) r) (xJ k l):=rfl
theorem XE{α:Type}:∀{k n m:Nat} {l:List α},Bo k n l=some m->m=n+l.length:=by
 intro k;induction k with
 |zero=>
  intro n m l h;have h:Bool.rec (motive:=fun _=>Option Nat) none (some n) (isNil l)=some m:=h;cases aE:isNil l with
  |false=>rw[aE] at h;cases h
  |true=>rw[aE] at h;injection h with h;rw[apF aE];simp[h]
 |succ k aP=>
  intro n m l h;rw[ai0] at h;cases ad:xJ k l with
  |none=>rw[ad] at h;exact aP h
  |some r=>
   rw[ad] at h;have h:Bo k (n+2 ^ k) r=some m:=h;have ax:=aiU ad;have aS:=aP h;omega
theorem aaV{α:Type}{l:List α}{n:Nat}(h:Cy l=some n):n=l.length:=by
 unfold Cy at h;cases ai:isNil (pY 256 l) with
 |true=>rw[ai,cd] at h;injection h with h;exact h.symm
 |false=>
  rw[ai,dK] at h;split at h
  ·rename_i m hm;injection h with h;subst h
   have:=XE hm;omega
  ·split at h
   ·rename_i m hm;injection h with h;subst h
    have:=XE hm;omega
   ·injection h with h;exact h.symm
theorem acp(h:b8 P B w0 μ H w){T:a0 Value}(aI:kF μ T n tmps){x:Option Operand}{v:Option Value}(he:iy T H x=some v):Gw μ v (x.map (dc tmps)):=by
 cases x with
 |none=>simp[iy] at he;subst he;trivial
 |some x=>
  simp only[iy] at he;cases aa:a3 T H x with
  |none=>rw[aa] at he;simp at he
  |some u=>rw[aa] at he;simp at he;subst he;exact uP h aI aa
theorem akb(h:b8 P B w0 μ H w)(aI:kF μ S.T n tmps){c:Call}{b:Builtin}{r:cP}(aC:o.op=.call c)(ai:c.callee=.builtin b)(he:qS P S H o b c=some r):oq P B w0 call aJ μ H w (execOp (dc tmps) o) r:=by
 have SN:∀cs b,o.op≠.select cs b:=fun cs b q=>by rw[aC] at q;cases q
 have s0:fl P S.T H o=some r->oq P B w0 call aJ μ H w (execOp (dc tmps) o) r:=Hw h aI SN;obtain⟨cs,hex⟩:∃cs,execOp (dc tmps) o=builtin b c.argTypes o.type cs (c.args.map (dc tmps)):=⟨_,by simp[execOp,aC,resolve,ai,invoke];rfl⟩;unfold qS at he;cases aF:fL S.T H c.args.toList with
 |none=>rw[aF] at he;simp at he
 |some args=>
  rw[aF] at he;have aq:b3 μ args (c.args.map (dc tmps)).toList:=by have:=JH h aI aF;simpa using this
  simp only at he;have v7:∀l,(c.args.map (dc tmps)).toList=l->c.args.map (dc tmps)=l.toArray:=fun l q=>by rw[<-q]
  have Ac:∀l,c.argTypes.toList=l->c.argTypes=l.toArray:=fun l q=>by rw[<-q]
  split at he
  ·--len of a slice
   rename_i a m xF t hW;split at he
   ·rename_i e hu;injection he with he;subst he
    obtain⟨v',l',ax,ad,ae⟩:=aq.jK;have:=ae.lr;subst this;refine .inl ⟨.int .i64 m,w,μ,?_,h,Step.refl _ _,.atom _ rfl⟩;rw[hex,v7 _ ax,Ac _ hW];cases a with
    |none=>rw[ad.to];simp[builtin,Builtin.len_,e2 hu,goInt]
    |some a=>obtain⟨_,_,rfl⟩:=ad.AE;simp[builtin,Builtin.len_,e2 hu,goInt]
   ·cases he
  ·--len of a map
   rename_i c8 t hW;split at he
   ·rename_i k e hu;split at he
    ·rename_i es clock hm;injection he with he;subst he
     obtain⟨v',l',ax,ad,ae⟩:=aq.jK;have:=ae.lr;subst this;obtain⟨L,a9,rfl⟩:=ad.Jb;obtain⟨m1,Lw,b4,bZ⟩:=h.map a9 hm;have x7:(getObj L.r).run P w=.ok (.map m1 Lw) w:=by simp[getObj,Sem.run,b4]
     have hlen:m1.size=es.length:=by have:=bZ.length;simp at this;omega
     refine .inl ⟨.int .i64 es.length,w,μ,?_,h,Step.refl _ _,.atom _ rfl⟩;rw[hex,v7 _ ax,Ac _ hW];simp[builtin,Builtin.len_,e2 hu,goInt,x7,hlen]
    ·cases he
   ·cases he
  ·--len of a string
   rename_i s t hW;split at he
   ·rename_i hu;have he:some (cP.val (.int .i64 s.data.toList.length) H)=some r:=by
     cases hle:Cy s.data.toList with
     |none=>rw[hle] at he;cases he
     |some n=>
      rw[hle] at he;simp only at he;rw[ub] at he;rw[<-aaV hle];exact he
    injection he with he;subst he
    obtain⟨v',l',ax,ad,ae⟩:=aq.jK;have:=ae.lr;subst this;have g8:(Builtin.len_ #[t] o.type #[.string s]).run P w=.ok (goInt s.size) w:=by simp[Builtin.len_,e2 hu]
    refine .inl ⟨goInt s.size,w,μ,?_,h,Step.refl _ _,.atom _ rfl⟩;rw[hex,v7 _ ax,Ac _ hW,ad.J0];simp[builtin,g8]
   ·cases he
  ·--append
   rename_i s x ts h1 hW;split at he
   ·cases he
   ·rename_i d au hu;obtain⟨v',l',ax,ad,ae⟩:=aq.jK;obtain⟨Kb,MX,rfl,aD,a6⟩:=ae.jK;have:=a6.lr;subst this;have:=yP (call:=call) (aJ:=aJ) (s:=Builtin.append_ #[ts,h1] o.type #[v',Kb]) (fun v H' q=>aj9 h ad aD hu (fun k q=>au k q) q) he;rw[hex,v7 _ ax,Ac _ hW];exact this
   ·cases he
  ·--cap
   rename_i a m xF t hW;split at he
   ·rename_i e hu;cases eu:Nat.beq xF cO with
    |true=>rw[eu] at he;cases he
    |false=>
     rw[eu,dK] at he;injection he with he;subst he
     obtain⟨v',l',ax,ad,ae⟩:=aq.jK;have:=ae.lr;subst this;have dX:xF≠cO:=fun q=>by rw[q,hT] at eu;cases eu
     obtain⟨b0,rfl⟩:=ad.auJ dX;refine .inl ⟨.int .i64 xF,w,μ,?_,h,Step.refl _ _,.atom _ rfl⟩;rw[hex,v7 _ ax,Ac _ hW];simp[builtin,Builtin.cap_,e2 hu,goInt]
   ·cases he
  ·--tq aA3 data
   rename_i a m xF;cases eu:(Nat.beq xF cO&&Nat.beq m 0) with
   |true=>rw[eu] at he;cases he
   |false=>
    rw[eu,dK] at he;cases m3:Nat.beq xF 0 with
    |true=>rw[m3] at he;cases he
    |false=>
     rw[m3,dK] at he;injection he with he;subst he
     obtain⟨v',l',ax,ad,ae⟩:=aq.jK;have:=ae.lr;subst this;have m3:xF≠0:=fun q=>by rw[q] at m3;cases m3
     obtain⟨id,off,L,gw,ek,rfl,a9,rfl,ah,_,uo⟩:=ad.wW (.inr (.inr (by omega)));have hm:xF=cO->m≠0:=fun q dG=>by subst q;subst dG;rw[hT] at eu;cases eu
     have pd:ek≠0/\gw=off:=by
      rcases uo with⟨_,rfl,rfl⟩|⟨q,aG,rfl,_⟩|⟨q,aG,_⟩
      ·exact⟨m3,rfl⟩
      ·exact⟨by have:=hm q;omega,rfl⟩
      ·exact absurd aG (hm q)
     obtain⟨pd,rfl⟩:=pd;refine .inl ⟨.pointer (some ⟨L.r,gw,none⟩),w,μ,?_,h,Step.refl _ _,.ptr id gw L a9⟩;have g8:(Builtin.unsafeSliceData_ c.argTypes o.type #[.slice (some ⟨L.r,gw,none⟩) m ek]).run P w=.ok (.pointer (some ⟨L.r,gw,none⟩)) w:=by
      show((if ek≠0 then pure _ else _:Sem Value)).run P w=_;rw[aV pd];rfl
     rw[hex,v7 _ ax];simp[builtin,g8]
  ·--a string over bytes
   rename_i p m tj it hW;obtain⟨v',l',ax,ad,ae⟩:=aq.jK;obtain⟨Kb,MX,rfl,aD,a6⟩:=ae.jK;have:=a6.lr;subst this;have:=yP (call:=call) (aJ:=aJ) (s:=Builtin.unsafeString_ #[tj,it] o.type #[v',Kb]) (fun v H' q=>by
    obtain⟨ba,bd,cm,cQ,dw,e0⟩:=akD h ad aD q;exact⟨ba,bd,μ,cm,cQ,dw,e0⟩) he
   rw[hex,v7 _ ax,Ac _ hW];exact this
  ·--copy
   rename_i d s sg ts hW;obtain⟨v',l',ax,ad,ae⟩:=aq.jK;obtain⟨Kb,MX,rfl,aD,a6⟩:=ae.jK;have:=a6.lr;subst this;have:=yP (call:=call) (aJ:=aJ) (s:=Builtin.copy_ #[sg,ts] o.type #[v',Kb]) (fun v H' q=>by
    obtain⟨ba,bd,cm,cQ,dw,e0⟩:=ake h ad aD q;exact⟨ba,bd,μ,cm,cQ,dw,e0⟩) he
   rw[hex,v7 _ ax,Ac _ hW];exact this
  ·--clear
   rename_i x t hW;obtain⟨v',l',ax,ad,ae⟩:=aq.jK;have:=ae.lr;subst this;have:=yP (call:=call) (aJ:=aJ) (s:=Builtin.clear_ #[t] o.type #[v']) (fun v H' q=>by
    obtain⟨ba,bd,cm,cQ,dw,e0⟩:=akc h ad q;exact⟨ba,bd,μ,cm,cQ,dw,e0⟩) he
   rw[hex,v7 _ ax,Ac _ hW];exact this
  ·--panic
   rename_i t v;injection he with he;subst he
   obtain⟨v',l',ax,ad,ae⟩:=aq.jK;have:=ae.lr;subst this;obtain⟨dV,rfl,aa⟩:=ad.yq;refine .inl ⟨.iface t v,.iface t dV,rfl,rfl,?_,.iface t v dV aa⟩;rw[hex,v7 _ ax];simp[builtin,Instr.panic,goPanic,Sem.run]
  ·--recover
   have ax:=aq.lr;have g8:(execOp (dc tmps) o).run P w=.ok .recover w:=by rw[hex];simp[builtin]
   injection he with he;subst he
   exact g8
  ·exact s0 he
theorem akf(h:b8 P B w0 μ H w)(aI:kF μ S.T n tmps){c:Call}{r:cP}(aC:o.op=.defer c)(he:Hs P S.T H c=some r):oq P B w0 call aJ μ H w (execOp (dc tmps) o) r:=by
 unfold Hs at he;cases aF:fL S.T H c.args.toList with
 |none=>rw[aF] at he;simp at he
 |some args=>
  rw[aF] at he;simp only at he;have aq:b3 μ args (c.args.map (dc tmps)).toList:=by have:=JH h aI aF;simpa using this
  cases m4:c.callee with
  |builtin b=>rw[m4] at he;simp at he
  |invoke recv name=>
   rw[m4] at he;simp only at he;cases ao:a3 S.T H recv with
   |none=>rw[ao] at he;simp at he
   |some UG=>
    rw[ao] at he;simp only[cn] at he;subst he;refine⟨.method name,#[],#[],UG::args,dc tmps recv::(c.args.map (dc tmps)).toList,rfl,?_,rfl,b3.nil _,b3.cons (uP h aI ao) aq⟩;have ax:(dc tmps recv::(c.args.map (dc tmps)).toList).toArray=#[dc tmps recv]++c.args.map (dc tmps):=by apply rv;simp
    rw[ax];simp[execOp,aC,resolve,m4]
  |value QX=>
   rw[m4] at he;simp only at he;cases aA:a3 S.T H QX with
   |none=>rw[aA] at he;simp at he
   |some lf=>
    rw[aA] at he;have k2:=uP h aI aA;cases lf with
    |func fn first captured=>
     simp only at he;cases wj:yH fn with
     |false=>rw[wj] at he;simp at he
     |true=>
     rw[wj] at he;simp only[cd,cn] at he;subst he;rcases k2.Ev with⟨b0,b',av,_,ad,ae⟩|⟨l,L,rfl,a9,rfl,rfl,av⟩
     ·refine⟨fn,captured,b',first.toList++args,b0.toList++(c.args.map (dc tmps)).toList,rfl,?_,wj,ae,ad.append aq⟩;have ax:(b0.toList++(c.args.map (dc tmps)).toList).toArray=b0++c.args.map (dc tmps):=by apply rv;simp
      rw[ax];simp[execOp,aC,resolve,m4,Deferred.ofValue,av]
     ·simp[yH] at wj
    |_=>simp at he
end
end
end Go.Cre

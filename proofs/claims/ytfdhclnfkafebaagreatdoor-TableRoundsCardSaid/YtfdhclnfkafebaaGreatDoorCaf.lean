/- A part of the proof of TableRounds. -/
import Derived.Test.YtfdhclnfkafebaaGreatDoorCae
import Derived.Laws.BytesString
import Derived.Laws.IdiomStrings
import Derived.Laws.BytesArg
import Derived.Lib.UnsafeStr
import Derived.Laws.BitsLemmas
set_option linter.unusedVariables false
set_option linter.unusedSimpArgs false
namespace Go.Cre
noncomputable section
open Go.RowKit
section
variable {P:Program}{B:Nat->Prop}{w0 w:World}{μ:b5}{H H':aw}
theorem Ua:∀{l:List Value} {lk:List UInt8},qd l=some lk->l=lk.map (fun b=>Value.int .u8 (b.toNat:Int)):=by
 intro l;induction l with
 |nil=>intro lk h;simp[qd] at h;subst h;rfl
 |cons v l aZ=>
  intro lk h;cases v with
  |int k n=>
   cases k with
   |u8=>
    cases n with
    |ofNat n=>
     simp only[qd] at h;cases cA:Nat.blt n 256 with
     |false=>rw[cA] at h;simp at h
     |true=>
      rw[cA,cv] at h;have cA:n<256:=hZ cA;cases ak:qd l with
      |none=>rw[ak] at h;simp at h
      |some r=>
       rw[ak] at h;simp only[cD] at h;subst h;rw[uF,<-aZ ak];congr 2
       have:(UInt8.ofNat n).toNat=n:=by simp;omega
       rw[this];rfl
    |negSucc n=>simp[qd] at h
   |_=>simp[qd] at h
  |_=>simp[qd] at h
theorem ca.bytes{lk:List UInt8}{l':List Value}(h:ca μ (lk.map fun b=>Value.int .u8 (b.toNat:Int)) l'):l'=lk.map fun b=>Value.int .u8 (b.toNat:Int):=by
 induction lk generalizing l' with
 |nil=>exact h.k5
 |cons b lk aZ=>
  obtain⟨v',t,rfl,ad,af⟩:=h.jH;rw[ad.qA,aZ af];rfl
theorem ajV{v:Value}(h:isByte v=true):∃n,v=.int .u8 (.ofNat n)/\Nat.blt n 256=true:=by
 cases v with
 |int k i=>
  cases k with
  |u8=>cases i with
   |ofNat n=>exact⟨n,rfl,h⟩
   |negSucc n=>cases h
  |_=>cases h
 |_=>cases h
theorem acM:∀(c r:List Value),(∀v∈c,isByte v=true)->qd c=some (Z2 c.length (c++r)):=by
 intro c;induction c with
 |nil=>intro r _;cases r<;>rfl
 |cons v c aZ=>
  intro r h;obtain⟨n,rfl,aE⟩:=ajV (h v (by simp));have ar:=aZ r fun u hu=>h u (by simp[hu]);simp only[qd,aE,cv,ar];rfl
theorem aek(k:Nat)(l:List Value):wv (k+1) l=Option.rec (motive:=fun _=>Option (List Value)) none (wv k) (wv k l):=rfl
theorem aej:∀{k:Nat} {l r:List Value},wv k l=some r->∃c,l=c++r/\c.length=2 ^ k/\∀v∈c,isByte v=true:=by
 intro k;induction k with
 |zero=>
  intro l r h;cases l with
  |nil=>cases h
  |cons v l=>
   have h:Bool.rec (motive:=fun _=>Option (List Value)) none (some l) (isByte v)=some r:=h;cases ak:isByte v with
   |false=>rw[ak] at h;cases h
   |true=>rw[ak] at h;injection h with h;subst h;exact⟨[v],rfl,rfl,fun u hu=>by simp at hu;rw[hu];exact ak⟩
 |succ k aZ=>
  intro l r h;rw[aek] at h;cases ad:wv k l with
  |none=>rw[ad] at h;cases h
  |some m=>
   rw[ad] at h;have h:wv k m=some r:=h;obtain⟨bH,rfl,aW,cw⟩:=aZ ad;obtain⟨bM,rfl,cH,h0⟩:=aZ h;refine⟨bH++bM,by simp,by simp[aW,cH,fC];omega,fun v az=>?_⟩;rcases qV.1 az with q|q
   ·exact cw v q
   ·exact h0 v q
theorem aei(k n:Nat)(l:List Value):z7 (k+1) n l=Bool.rec (motive:=fun _=>Bool) (Option.rec (motive:=fun _=>Bool) false (fun r=>z7 k (Nat.sub n (Nat.pow 2 k)) r) (wv k l)) (z7 k n l) (Nat.blt n (Nat.pow 2 k)):=rfl
theorem aeh:∀{k n:Nat} {l:List Value},z7 k n l=true->∃c r,l=c++r/\c.length=n/\∀v∈c,isByte v=true:=by
 intro k;induction k with
 |zero=>
  intro n l h;have h:Nat.beq n 0=true:=h;exact⟨[],l,rfl,(eC h).symm,fun v az=>by cases az⟩
 |succ k aZ=>
  intro n l h;rw[aei] at h;cases ak:Nat.blt n (Nat.pow 2 k) with
  |true=>rw[ak] at h;exact aZ h
  |false=>
   rw[ak] at h;have jZ:2 ^ k<=n:=by
    rcases iK n (2 ^ k) with q|q
    ·have:Nat.blt n (Nat.pow 2 k)=true:=mU q;rw[ak] at this;cases this
    ·exact q
   cases ad:wv k l with
   |none=>rw[ad] at h;cases h
   |some m=>
    rw[ad] at h;have h:z7 k (n -2 ^ k) m=true:=h;obtain⟨bH,rfl,aW,cw⟩:=aej ad;obtain⟨bM,r,rfl,cH,h0⟩:=aZ h;have cH:bM.length=n -2 ^ k:=cH;refine⟨bH++bM,r,by simp,by rw[eS,aW,cH];omega,fun v az=>?_⟩;rcases qV.1 az with q|q
    ·exact cw v q
    ·exact h0 v q
theorem aoV{α:Type}:∀{c:List α} (r:List α),takeN c.length (c++r)=some c:=by
 intro c;induction c with
 |nil=>intro r;rfl
 |cons a c aZ=>intro r;simp only[lP,SS,takeN];rw[aZ r]
theorem afN{src dst:TypeId}{x v:Value}(he:NJ P H src dst x=some v):Cy P H src dst x=some v:=by
 unfold NJ at he;unfold Cy;cases ad:P.underlying src with
 |none=>rw[ad] at he;cases he
 |some gF=>
  rw[ad] at he;cases af:P.underlying dst with
  |none=>rw[af] at he;cases gF<;>cases he
  |some rI=>
   rw[af] at he;cases gF with
   |slice e=>
    cases rI with
    |string=>
     cases x with
     |slice b len cap=>
      cases b with
      |none=>cases he
      |some a=>
       simp only at he ⊢;cases aX:P.underlying e with
       |none=>rw[aX] at he;cases he
       |some Z5=>
        rw[aX] at he;cases aU:a.spot with
        |some s=>rw[aU] at he;cases Z5<;>first|(cases he;done)|(rename_i k;cases k<;>cases he)
        |none=>
         rw[aU] at he;cases Z5 with
         |int k=>
          cases k with
          |u8=>
           cases b0:H.mem.get a.block with
           |none=>rw[b0] at he;cases he
           |some fo=>
            rw[b0] at he;cases fo with
            |row cells el opn bP ey sh=>
             simp only at he ⊢;unfold Z7 at he;cases aq:z7 21 len (nY a.off cells) with
             |false=>rw[aq] at he;cases he
             |true=>
              rw[aq,cv] at he;obtain⟨c,r,aC,aW,cw⟩:=aeh aq;have aM:jV H 1 len (.slice (some a) len 0)=some c:=by
               unfold jV;simp only[aU];cases len with
               |zero=>simp only;rw[zH.1 aW]
               |succ m=>
                simp only[b0,gT];rw[aC,<-aW];exact aoV r
              simp only[aM,acM c r cw,y1,aU,ov,dB];rw[aW,<-aC];exact he
            |_=>cases he
          |_=>cases he
         |_=>cases he
     |_=>cases he
    |_=>cases x<;>first|(cases he;done)|(rename_i b _ _;cases b<;>cases he)
   |_=>cases he
theorem afM{src dst:TypeId}{x v:Value}(he:NI P H src dst x=some v):Cy P H src dst x=some v:=by
 unfold NI at he;cases aD:Qu x with
 |false=>rw[aD] at he;exact he
 |true=>rw[aD] at he;exact afN he
theorem afO(h:cd P B w0 μ H w){src dst:TypeId}{x dP v:Value}(ab:bu μ x dP)(he:Cy P H src dst x=some v):
 ∃v',(convert src dst dP).run P w=.ok v' w/\bu μ v v':=by
 unfold Cy at he;cases hu:P.underlying src with
 |none=>rw[hu] at he;simp at he
 |some ds=>
  rw[hu] at he;cases aq:P.underlying dst with
  |none=>rw[aq] at he;simp at he
  |some z9=>
   rw[aq] at he;cases ds with
   |slice e=>
    cases z9 with
    |string=>
     cases x with
     |slice a len cap=>
      cases a with
      |none=>
       rw[ab.sW];simp only at he;cases jY:P.underlying e with
       |none=>rw[jY] at he;simp at he
       |some No=>
        rw[jY] at he;cases No with
        |int k=>
         cases k with
         |u8=>
          simp only[cD] at he;subst he;refine⟨.string .empty,?_,.atom _ rfl⟩;rw[run_convert_bytes_string w src dst e _ _ _ hu jY aq];simp[Conv.bytesToString]
         |_=>simp at he
        |_=>simp at he
      |some a=>
       have l3:a.spot=none:=by
        cases q:a.spot with
        |none=>rfl
        |some _=>simp[y1,q] at he
       obtain⟨id,off,L,fV,ej,rfl,bB,rfl,aj,_,_⟩:=ab.vN (.inl l3);simp only[y1,ov,dB] at he;cases jY:P.underlying e with
       |none=>rw[jY] at he;simp at he
       |some No=>
        rw[jY] at he;cases No with
        |int k=>
         cases k with
         |u8=>
          simp only at he;cases aM:jV H 1 len (.slice (some ⟨id,off,none⟩) len 0) with
          |none=>rw[aM] at he;simp at he
          |some cells=>
           rw[aM] at he;simp only at he;cases ak:qd cells with
           |none=>rw[ak] at he;simp at he
           |some lk=>
            rw[ak] at he;simp only[cD] at he;subst he;have JZ:=Ua ak;have PK:bu μ (.slice (some ⟨id,off,none⟩) len 0) (.slice (some ⟨L.r,off,none⟩) len 0):=.nJ id off len 0 L bB (by decide);obtain⟨l',ck,ch⟩:=Jw h PK (m:=len) rfl (bX _) aM;rw[JZ] at ck;have dL:=ck.bytes;subst dL;have J8:(loadCells ⟨L.r,fV,none⟩ len).run P w=.ok ((lk.map fun b=>(b.toNat:Int)).map (Value.int .u8)).toArray w:=by
             by_cases aO:0<len
             ·rw[aj aO];have:=ch w.drawn;simp only[Builtin.firstCells,gT] at this;rw[this];simp
             ·have AD:len=0:=by omega
              subst AD;have sn:lk.map (fun b=>Value.int .u8 (b.toNat:Int))=[]:=by
               rw[<-JZ];simp[jV] at aM;exact aM
              have:lk=[]:=by simpa using sn
              subst this;simp[loadCells,loadCellsFrom]
            refine⟨.string ⟨lk.toArray⟩,?_,.atom _ rfl⟩;rw[run_convert_bytes_string w src dst e _ _ _ hu jY aq,run_bytesToString w ⟨L.r,fV,none⟩ len ej _ J8,foldl_push_bytes];congr 2
            have ve:((fun n:Int=>UInt8.ofNat n.toNat) ∘ fun b:UInt8=>(b.toNat:Int))=_root_.id:=by funext b;simp
            apply ByteArray.ext
            simp[ve]
         |_=>simp at he
        |_=>simp at he
     |_=>simp at he
    |_=>simp at he
   |_=>cases z9<;>simp at he
theorem aga{r n:Nat}{c:Array Value}{e:TypeId}{f:Nat×Nat}(h:w.heap[r]?=some (.cells c e f))(aE:n≠0):
 w.freeze ⟨r,0,none⟩ n={w with heap:=w.heap.setIfInBounds r (.cells c e (if f.1==f.2 then(0,0+n) else(min f.1 0,max f.2 (0+n))))}:=by
 have av:r<w.heap.size:=by
  rcases iK r w.heap.size with c9|c9
  ·exact c9
  ·rw[s5 c9] at h;cases h
 unfold World.freeze;rw[bd aE];congr 1
 apply El
 intro i;rw[aa1,zB];by_cases ar:r=i
 ·subst ar;rw[bj rfl,bj rfl,h,bj av];rfl
 ·simp[ar]
theorem afQ(h:cd P B w0 μ H w){sO it dH:TypeId}{p h8 n KU v:Value}(ap:bu μ p h8)(aE:bu μ n KU)(he:NK P H sO p n=some (v,H')):
 ∃v' bn,(Builtin.unsafeString_ #[sO,it] dH #[h8,KU]).run P w=.ok v' bn/\cd P B w0 μ H' bn/\Step μ μ H H'/\bu μ v v':=by
 unfold NK at he;cases p with
 |pointer a=>
  cases n with
  |int k i=>
   cases k with
   |i64=>
    obtain rfl:=aE.qA;cases i with
    |ofNat m=>
     cases m with
     |zero=>
      cases a with
      |none=>
       rw[ap.DX];simp only[cD,dK] at he;obtain⟨rfl,rfl⟩:=he;exact⟨_,w,Lib.run_unsafeString_none w sO it dH none,h,Step.refl _ _,.atom _ rfl⟩
      |some a=>
       obtain⟨id,off,L,rfl,bB,rfl⟩:=ap.oZ;simp only[cD,dK] at he;obtain⟨rfl,rfl⟩:=he;exact⟨_,w,Lib.run_unsafeString_none w sO it dH _,h,Step.refl _ _,.atom _ rfl⟩
     |succ m=>
      cases a with
      |none=>exact absurd (show none=some (v,H') from he) (by simp)
      |some a=>
       obtain⟨id,off,L,rfl,bB,rfl⟩:=ap.oZ;simp only at he;cases hu:P.underlying sO with
       |none=>rw[hu] at he;simp at he
       |some d=>
        rw[hu] at he;cases d with
        |pointer u=>
         cases hm:H.mem.get id with
         |none=>rw[hm] at he;simp at he
         |some b=>
          rw[hm] at he;cases b with
          |row cells e opn bP ey sh=>
           simp only at he;cases aJ:(Nat.beq e u&&Nat.beq (P.cellsOf e) 1&&Nat.ble (m+1) 1000000&&!Nat.blt id H.bU&&Nat.beq off 0&&!sh) with
           |false=>rw[aJ] at he;simp at he
           |true=>
            rw[aJ] at he;simp only[ov,dB] at he;simp only[gI,s7] at aJ;obtain⟨⟨⟨⟨⟨aX,aU⟩,b0⟩,dN⟩,gl⟩,iC⟩:=aJ;have aX:=eC aX;subst aX;have aU:=eC aU;have b0:=hZ b0;have dN:=T6 dN;have gl:=eC gl;subst gl;cases aS:takeN (m+1) cells with
            |none=>rw[aS] at he;simp at he
            |some l=>
             rw[aS] at he;simp only at he;cases ak:qd l with
             |none=>rw[ak] at he;simp at he
             |some lk=>
              rw[ak] at he;simp only at he;cases PT:H.upd id (.row cells e opn bP (bif sh then tr else Nat.max ey (m+1)) sh) with
              |none=>rw[PT] at he;simp at he
              |some H0=>
               rw[PT] at he;simp only at he;cases O7:(bif opn then y0 H0 id bP else some H0) with
               |none=>rw[O7] at he;simp at he
               |some H1=>
               rw[O7] at he;simp only[cD,dK] at he;obtain⟨rfl,rfl⟩:=he;obtain⟨c,f,ck,ch,c6,gg,gh,hg,gW⟩:=h.row bB hm;obtain⟨t1,t2,t3⟩:=D5 aS;have hle:=Ua ak;have q':lk.length=m+1:=by have:=aa List.length hle;simp at this;omega
               have dL:ca μ l ((c.toList.take cells.length).take (m+1)):=by rw[t1];exact hg.take (m+1)
               rw[hle] at dL;have ahL:=dL.bytes;have mf:w.shape? L.r=some (e,c.size):=by simp[World.shape?,ck]
               have gZ:=Lib.run_unsafeString_row (P:=P) w sO it dH e hu aU L.r c.size mf lk (by intro q;rw[q] at q';simp at q') (by omega) (by omega) (fun j x bf=>by
                rw[Addr.qZ,j7,cell_of_row ck];have:((c.toList.take cells.length).take (m+1))[j]?=some (Value.int .u8 (x.toNat:Int)):=by rw[ahL,ko,bf];rfl
                rw[ji] at this;split at this
                ·rw[ji] at this;split at this
                 ·simpa using this
                 ·cases this
                ·cases this)
               rw[q'] at gZ;have kL:=aga (n:=m+1) ck (by omega);rw[kL] at gZ;have ak:j5 P μ L (.row cells e opn bP (bif sh then tr else Nat.max ey (m+1)) sh) (.cells c e (if f.1==f.2 then(0,0+(m+1)) else(min f.1 0,max f.2 (0+(m+1))))):=by
                refine⟨rfl,ch,c6,gg,gh,fun i v v' q dG=>hg.2 i v v' q ?_,?_⟩
                ·have ar:=(gS.1 q).1;rw[ji,bj ar];simpa using dG
                ·cases sh with
                 |true=>cases iC
                 |false=>
                  simp only[dB];have C6:m+1<=Nat.max ey (m+1):=Nat.le_max_right _ _;have asu:ey<=Nat.max ey (m+1):=Nat.le_max_left _ _;rcases gW.2 rfl with q|q
                  ·rw[bj (by simpa using q)];exact⟨fun off _ _ af=>by simp at af;omega,fun _=>.inr (by simpa using C6)⟩
                  ·by_cases qn:f.1=f.2
                   ·rw[bj (by simpa using qn)];exact⟨fun off _ _ af=>by simp at af;omega,fun _=>.inr (by simpa using C6)⟩
                   ·rw[bd (by simpa using qn)];have:max f.2 (0+(m+1))<=Nat.max ey (m+1):=Nat.max_le.2 ⟨by omega,by omega⟩;exact⟨fun off _ _ af=>by simp only at af;omega,fun _=>.inr this⟩
               obtain⟨dQ,ee⟩:=h.aaP bB dN hm rfl PT O7 ak;exact⟨_,_,gZ,dQ,ee,.atom _ rfl⟩
          |_=>simp at he
        |_=>simp at he
    |negSucc m=>cases a<;>simp at he
   |_=>cases a<;>simp at he
  |_=>cases a<;>simp at he
 |_=>simp at he
theorem strCells_eq(l:List UInt8):strCells l=l.map fun b=>Value.int .u8 b.toNat:=by
 induction l with
 |nil=>rfl
 |cons b l aZ=>show Value.int .u8 (.ofNat b.toNat)::strCells l=_;rw[aZ];rfl
theorem aw.alj{H H1:aw}{cells:List Value}{e:TypeId}{sh:Bool}{id:Nat}(aE:H.oj cells e sh=some (id,H1)):H1.aG=H.aG+1:=by
 unfold aw.oj at aE;cases aM:H.vE with
 |none=>rw[aM] at aE;cases aE
 |some p=>
  obtain⟨f,cz⟩:=p;rw[aM] at aE;have ad:=(aw.qC aE).2.1;have af:=(aw.K0 aM).2.1;omega
theorem afK{src dst:TypeId}{s:ByteArray}{v:Value}{H1:aw}(he:wD P H src dst s=some (v,H1)):H1.aG=H.aG+1:=by
 unfold wD at he;split at he
 ·split at he
  ·rename_i e _ _ _ _;cases ak:Nat.beq (P.cellsOf e) 1 with
   |false=>rw[ak] at he;cases he
   |true=>
    rw[ak,cv] at he;cases aE:H.oj (strCells s.data.toList) e true with
    |none=>rw[aE] at he;cases he
    |some p=>
     obtain⟨id,cz⟩:=p;rw[aE] at he;have he:some (Value.slice (some ⟨id,0,none⟩) s.data.toList.length cQ,cz)=some (v,H1):=he;simp only[cD,dK] at he;obtain⟨_,rfl⟩:=he;exact aw.alj aE
  ·cases he
 ·cases he
theorem afL(h:cd P B w0 μ H w){src dst:TypeId}{s:ByteArray}{v:Value}{H1:aw}(he:wD P H src dst s=some (v,H1)):
 ∃v' bn bw,(convert src dst (.string s)).run P w=.ok v' bn/\cd P B w0 bw H1 bn/\Step μ bw H H1/\bu bw v v':=by
 unfold wD at he;split at he
 ·rename_i e ad af;split at he
  ·rename_i aV;cases ak:Nat.beq (P.cellsOf e) 1 with
   |false=>rw[ak] at he;cases he
   |true=>
    rw[ak,cv] at he;cases aE:H.oj (strCells s.data.toList) e true with
    |none=>rw[aE] at he;cases he
    |some p=>
     obtain⟨id,cz⟩:=p;rw[aE] at he;have he:some (Value.slice (some ⟨id,0,none⟩) s.data.toList.length cQ,cz)=some (v,H1):=he;simp only[cD,dK] at he;obtain⟨rfl,rfl⟩:=he;have JZ:=eC ak;have jZ:=grownCap_ge w s.size 0 e;have ea:s.size=s.data.toList.length:=by rw[Array.length_toList];rfl
     have m9:(bytesRow s (grownCap w s.size 0 e)).size=grownCap w s.size 0 e:=by
      unfold bytesRow;have:s.data.size=s.size:=rfl;simp[this];omega
     obtain⟨bO,bA,rfl⟩:=h.drew.QF (o:=.cells (bytesRow s (grownCap w s.size 0 e)) e ((bytesRow s (grownCap w s.size 0 e)).size,(bytesRow s (grownCap w s.size 0 e)).size+1)) (L:=⟨w.heap.size,grownCap w s.size 0 e,1⟩) aE rfl (fun f=>by
      refine⟨rfl,m9,JZ,?_,(fun q=>by cases q),fun i u iF x y=>?_,⟨fun off aj ad af=>?_,(fun q=>by cases q)⟩⟩
      ·rw[strCells_eq,g6,<-ea];exact jZ
      ·rw[strCells_eq,ko] at x;obtain⟨b,ql,rfl⟩:=qY.1 x;have ar:i<s.data.size:=by
        have:=(gS.1 ql).1;simpa using this
       unfold bytesRow at y;rw[Sz,bj (by simpa using ar)] at y;rw[Array.getElem?_map,<-Array.getElem?_toList,ql] at y;simp only[IY,cD] at y;subst y;exact .atom _ rfl
      ·rw[m9] at ad;show off<0;have:off<grownCap w s.size 0 e:=aj;omega)
     refine⟨_,_,_,run_bytes_of_string w src dst e s ad af aV,bO,bA,?_⟩;rw[<-ea];exact .pQ H.aG 0 s.size _ ⟨w.heap.size,grownCap w s.size 0 e,1⟩ (b5.kh _ _ _) jZ (by simp)
  ·cases he
 ·cases he
end
end
end Go.Cre
namespace Go.Cre
noncomputable section
open Go.RowKit
section
variable {P:Program}{B:Nat->Prop}{w0 w:World}{μ:b5}{H H':aw}{T:a4 Value}{n:Nat}{tmps:Array Value}
def df(tmps:Array Value):Operand->Value
 |.tmp t=>tmps.getD t undef
 |.const v=>v
 |.global g=>.pointer (some ⟨g,0,none⟩)
 |.func f=>.func (.func f) #[] #[]
theorem ua(h:cd P B w0 μ H w)(aS:kq μ T n tmps){x:Operand}{v:Value}(he:ba T H x=some v):bu μ v (df tmps x):=by
 cases x with
 |tmp t=>exact aS.2 t v he
 |const c=>
  have he:(bif plain c then some c else none)=some v:=he;cases ap:plain c with
  |false=>rw[ap] at he;simp at he
  |true=>rw[ap] at he;simp at he;subst he;exact pN ap
 |global g=>
  have he:DU H g=some v:=he;unfold DU at he;cases aF:Nat.blt g H.bU with
  |false=>rw[aF] at he;simp at he
  |true=>
   rw[aF,cv] at he;have aF:g<H.bU:=hZ aF;cases hm:H.mem.get g with
   |none=>rw[hm] at he;simp at he
   |some b=>
    rw[hm] at he;cases b with
    |row c e o f z s=>
     simp only[cD] at he;subst he;obtain⟨L,bB⟩:=h.tv g c e o f z s aF hm;have:=bu.ptr (μ:=μ) g 0 L bB;rw[h.own g L bB aF] at this;exact this
    |_=>simp at he
 |func f=>
  have he:some (Value.func (.func f) #[] #[])=some v:=he;injection he with he;subst he
  exact .func _ _ _ _ _ rfl rfl rfl (fun i v v' q=>by simp at q) (fun i v v' q=>by simp at q)
theorem HG(h:cd P B w0 μ H w)(aS:kq μ T n tmps):∀{l:List Operand} {vs:List Value},fz T H l=some vs->ca μ vs (l.map (df tmps)):=by
 intro l;induction l with
 |nil=>intro vs he;simp[fz] at he;subst he;exact ca.nil _
 |cons x l aZ=>
  intro vs he;simp only[fz] at he;cases ab:ba T H x with
  |none=>rw[ab] at he;simp at he
  |some v=>
   rw[ab] at he;cases aD:fz T H l with
   |none=>rw[aD] at he;simp at he
   |some r=>rw[aD] at he;simp at he;subst he;exact ca.cons (ua h aS ab) (aZ aD)
theorem amj:∀{l:List Operand} {vs:List Value},fz T H l=some vs->∀x∈l,∃v,ba T H x=some v/\v∈vs:=by
 intro l;induction l with
 |nil=>intro vs he x ab;simp at ab
 |cons y l aZ=>
  intro vs he x ab;simp only[fz] at he;cases aB:ba T H y with
  |none=>rw[aB] at he;simp at he
  |some v=>
   rw[aB] at he;cases aD:fz T H l with
   |none=>rw[aD] at he;simp at he
   |some r=>
    rw[aD] at he;simp at he;subst he;rcases gb.1 ab with rfl|ab
    ·exact⟨v,aB,by simp⟩
    ·obtain⟨u,a,b⟩:=aZ aD x ab;exact⟨u,a,by simp[b]⟩
theorem YG(h:cd P B w0 μ H w)(aS:kq μ T n tmps):∀{l:List (Nat×Operand)} {ps:List (Nat×Value)},lI T H l=some ps->wa μ ps (l.map fun(i,x)=>(i,df tmps x)):=by
 intro l;induction l with
 |nil=>intro vs he;simp[lI] at he;subst he;exact⟨rfl,fun i p h8 q=>by simp at q⟩
 |cons x l aZ=>
  intro vs he;obtain⟨i,x⟩:=x;simp only[lI] at he;cases ab:ba T H x with
  |none=>rw[ab] at he;simp at he
  |some v=>
   rw[ab] at he;cases aD:lI T H l with
   |none=>rw[aD] at he;simp at he
   |some r=>
    rw[aD] at he;simp at he;subst he;have:=aZ aD;refine⟨by simp[this.1],fun j p h8 q dG=>?_⟩;cases j with
    |zero=>simp at q dG;subst q;subst dG;exact⟨rfl,ua h aS ab⟩
    |succ j=>exact this.2 j p h8 (by simpa using q) (by simpa using dG)
def nP(P:Program)(B:Nat->Prop)(w0:World)(call:eZ)(aQ:hd)(μ:b5)(H:aw)(w:World)(s:Sem Next):cT->Prop
 |.val v H'=>(∃v' bn bw,s.run P w=.ok (.value v') bn/\cd P B w0 bw H' bn/\Step μ bw H H'/\bu bw v v')\/
  (∃f args cq,s.run P w=(callFunc f cq.toArray).run P w/\ca μ args cq/\call f args H=some (.returned v,H'))\/
  (∃l L args cq,μ l=some L/\s.run P w=(Instr.yield L.r cq.toArray).run P w/\ca μ args cq/\aQ l args H=some (.returned v,H'))
 |.skip H'=>∃bn,s.run P w=.ok .skip bn/\cd P B w0 μ H' bn/\Step μ μ H H'
 |.hR d=>∃k0 cap ej args cq,d={target:=.fn k0 cap,args:=args.toArray}/\s.run P w=.ok (.defer {target:=.fn k0 ej,args:=cq.toArray}) w/\xv k0=true/\ca μ cap.toList ej.toList/\ca μ args cq
 |.jc chain H'=>(∃v v',chain=[{v:=v,recovered:=false}]/\H'=H/\s.run P w=.halt (.panic v') w/\bu μ v v')\/
  (∃f args cq,s.run P w=(callFunc f cq.toArray).run P w/\ca μ args cq/\call f args H=some (.panicked chain,H'))
 |.Bu=>s.run P w=.ok .recover w
variable {call:eZ}{aQ:hd}{o:Oper}{S:a5}
theorem pK{s:Sem Value}{x:Option Value}{r:cT}(h:cd P B w0 μ H w)(ag:∀v,x=some v->∃v',s.run P w=.ok v' w/\bu μ v v')(he:g3 x H=some r):
 nP P B w0 call aQ μ H w (do pure (.value (<-s))) r:=by
 cases x with
 |none=>cases he
 |some v=>
  have he:some (cT.val v H)=some r:=he;injection he with he;subst he
  obtain⟨v',a,b⟩:=ag v rfl;exact .inl ⟨v',w,μ,by simp[a],h,Step.refl _ _,b⟩
theorem xF{s:Sem Value}{x:Option (Value×aw)}{r:cT}(ag:∀v H',x=some (v,H')->∃v' bn bw,s.run P w=.ok v' bn/\cd P B w0 bw H' bn/\Step μ bw H H'/\bu bw v v')(he:nd x=some r):
 nP P B w0 call aQ μ H w (do pure (.value (<-s))) r:=by
 cases x with
 |none=>cases he
 |some p=>
  obtain⟨v,H'⟩:=p;have he:some (cT.val v H')=some r:=he;injection he with he;subst he
  obtain⟨v',bn,bw,a,b,c,d⟩:=ag v H' rfl;exact .inl ⟨v',bn,bw,by simp[a],b,c,d⟩
theorem amb{s:Sem Unit}{x:Option aw}{r:cT}(ag:∀H',x=some H'->∃bn,s.run P w=.ok () bn/\cd P B w0 μ H' bn/\Step μ μ H H')(he:JO x=some r):
 nP P B w0 call aQ μ H w (do s;pure .skip) r:=by
 cases x with
 |none=>cases he
 |some H'=>
  have he:some (cT.skip H')=some r:=he;injection he with he;subst he
  obtain⟨bn,a,b,c⟩:=ag H' rfl;exact⟨bn,by simp[a],b,c⟩
theorem Fz(h:cd P B w0 μ H w)(aS:kq μ T n tmps)(PH:∀cs b,o.op≠.select cs b){r:cT}(he:fk P T H o=some r):nP P B w0 call aQ μ H w (execOp (df tmps) o) r:=by
 unfold fk at he;cases aj:fz T H o.op.operands.toList with
 |none=>rw[aj] at he;simp at he
 |some vs=>
  rw[aj] at he;simp only at he;cases ap:vs.all plain with
  |false=>rw[ap] at he;simp at he
  |true=>
   rw[ap,cv] at he;have ahQ:execOp (pL T H) o=execOp (df tmps) o:=execOp_congr o PH fun x ab=>by
    obtain⟨v,a,b⟩:=amj aj x (by simpa using ab);unfold pL;rw[a];exact(Lp (uE.1 ap v b) (ua h aS a)).symm
   rw[ahQ] at he;cases ho:fc P (execOp (df tmps) o) with
   |none=>rw[ho] at he;simp at he
   |some aG=>
    rw[ho] at he;have gZ:=UT ho w;cases aG with
    |value v=>
     simp only at he;cases az:plain v with
     |false=>rw[az] at he;simp at he
     |true=>
      rw[az,cv] at he;simp only[cD] at he;subst he;exact .inl ⟨v,w,μ,gZ,h,Step.refl _ _,pN az⟩
    |skip=>
     simp only[cD] at he;subst he;exact⟨w,gZ,h,Step.refl _ _⟩
    |_=>simp at he
end
end
end Go.Cre
namespace Go.Cre
noncomputable section
open Go.RowKit
section
variable {P:Program}{B:Nat->Prop}{w0 w:World}{μ:b5}{H H':aw}{n:Nat}{tmps:Array Value}
variable {call:eZ}{aQ:hd}{o:Oper}{S:a5}
theorem tt{α:Type}(n:Int)(k:Int->α):q5 n k=k n:=by
 cases n with
 |ofNat m=>cases m<;>rfl
 |negSucc m=>cases m<;>rfl
theorem Ei(k:IntKind)(n:Int):zz k n=k.wrap n:=by
 unfold zz;cases n with
 |ofNat m=>
  simp only
  cases ak:Nat.blt m (tS k) with
  |false=>rfl
  |true=>
   have ak:m<tS k:=hZ ak;simp only[cv];cases k<;>simp only[tS] at ak<;>simp[IntKind.wrap,IntKind.bits,IntKind.signed]<;>omega
 |negSucc m=>
  simp only
  cases ak:(k.signed&&Nat.blt m (tS k)) with
  |false=>rfl
  |true=>
   simp only[gI] at ak;have ag:=ak.1;have ak:m<tS k:=hZ ak.2;simp only[cv];cases k with
   |i64=>simp only[tS] at ak;rw[IntKind.wrap_i64,Int.negSucc_eq];omega
   |i32=>simp only[tS] at ak;rw[IntKind.wrap_i32,Int.negSucc_eq];omega
   |i8=>simp[tS] at ak
   |i16=>simp[tS] at ak
   |_=>cases ag
theorem Dq(a b:Int):qy a b=decide (a<b):=by
 cases a with
 |ofNat a=>cases b with
  |ofNat b=>
   simp only[qy];have:Nat.blt a b=decide (a<b):=by
    by_cases h:a<b
    ·rw[ie h];exact mU h
    ·rw[fx h];cases q:Nat.blt a b
     ·rfl
     ·exact absurd (hZ q) h
   rw[this];simp
  |negSucc b=>simp[qy];omega
 |negSucc a=>cases b with
  |ofNat b=>simp[qy];omega
  |negSucc b=>
   simp only[qy];by_cases h:b<a
   ·have:Nat.blt b a=true:=mU h;rw[this,eq_comm,Jt];omega
   ·have:Nat.blt b a=false:=by
     cases q:Nat.blt b a
     ·rfl
     ·exact absurd (hZ q) h
    rw[this,eq_comm,decide_eq_false_iff_not];omega
theorem Dp(a b:Int):qx a b=(a==b):=by
 rw[s6,beq_iff_eq];cases a with
 |ofNat a=>cases b with
  |ofNat b=>simp only[qx];constructor
            ·intro h;rw[eC h]
            ·intro h;injection h with h;rw[h];exact hY b
  |negSucc b=>simp[qx]
 |negSucc a=>cases b with
  |ofNat b=>simp[qx]
  |negSucc b=>simp only[qx];constructor
              ·intro h;rw[eC h]
              ·intro h;injection h with h;rw[h];exact hY b
theorem W7{a b:IntKind}(h:mi a b=true):a=b:=by cases a<;>cases b<;>first|rfl|cases h
theorem zi(H:aw)(b:Bool):xM H b=some (.val (.bool b) H):=by cases b<;>rfl
theorem ajQ(h:cd P B w0 μ H w){k:IntKind}{a b:Int}{zp:Option cT}{op:BinOp}{t:TypeId}{x y:Operand}{r:cT}(ab:df tmps x=.int k a)(aB:df tmps y=.int k b)(aj:∃qO,o.op=.binOp op t x y qO)
 (Da:zp=some r->nP P B w0 call aQ μ H w (execOp (df tmps) o) r)(he:jG H k a b zp op=some r):nP P B w0 call aQ μ H w (execOp (df tmps) o) r:=by
 obtain⟨qO,aj⟩:=aj;have aF:(eqGuard op t x y (.int k a) (.int k b)).run P w=.ok () w:=by cases op<;>simp[eqGuard]
 have fin:∀v,(binOp op t (.int k a) (.int k b)).run P w=.ok v w->isAtom v=true->some (cT.val v H)=some r->nP P B w0 call aQ μ H w (execOp (df tmps) o) r:=by
  intro v az aI av;injection av with av;subst av
  refine .inl ⟨v,w,μ,?_,h,Step.refl _ _,.atom _ aI⟩;simp[execOp,aj,ab,aB,aF,az]
 cases op with
 |add=>simp only[jG,tt,Ei,pP] at he;exact fin _ (by simp[binOp,Op.intArith]) rfl he
 |sub=>simp only[jG,tt,Ei,pP] at he;exact fin _ (by simp[binOp,Op.intArith]) rfl he
 |mul=>simp only[jG,tt,Ei,pP] at he;exact fin _ (by simp[binOp,Op.intArith]) rfl he
 |eql=>simp only[jG,zi,Dp] at he;exact fin _ (by simp[binOp,Op.intCmp]) rfl he
 |neq=>simp only[jG,zi,Dp] at he;exact fin _ (by simp[binOp,Op.intCmp,bne]) rfl he
 |lss=>simp only[jG,zi,Dq] at he;exact fin _ (by simp[binOp,Op.intCmp]) rfl he
 |leq=>simp only[jG,zi,Dq] at he;exact fin _ (by simp[binOp,Op.intCmp];rw[<-decide_not];exact m1.2 (by omega)) rfl he
 |gtr=>simp only[jG,zi,Dq] at he;exact fin _ (by simp[binOp,Op.intCmp]) rfl he
 |geq=>simp only[jG,zi,Dq] at he;exact fin _ (by simp[binOp,Op.intCmp];rw[<-decide_not];exact m1.2 (by omega)) rfl he
 |_=>exact Da he
end
end
end Go.Cre
namespace Go.Cre
noncomputable section
open Go.RowKit
section
variable {P:Program}{B:Nat->Prop}{w0 w:World}{μ:b5}{H H':aw}{n:Nat}{tmps:Array Value}
variable {call:eZ}{aQ:hd}{o:Oper}{S:a5}
theorem bu.CF{fn:Fn}{a b:Array Value}{v:Value}(h:bu μ (.func fn a b) v):
 (∃bV b',v=.func fn bV b'/\xv fn=true/\ca μ a.toList bV.toList/\ca μ b.toList b'.toList)\/(∃l L,fn=.yield l/\μ l=some L/\a=#[]/\b=#[]/\v=.func (.yield L.r) #[] #[]):=by
 cases h with
 |atom _ q=>simp[isAtom] at q
 |func fn a b bV b' aB aI ak Kj yS=>
  exact .inl ⟨bV,b',rfl,aB,⟨by simpa using aI,fun i v v' x y=>Kj i v v' (by simpa using x) (by simpa using y)⟩,⟨by simpa using ak,fun i v v' x y=>yS i v v' (by simpa using x) (by simpa using y)⟩⟩
 |yield l L bB=>exact .inr ⟨l,L,rfl,bB,rfl,rfl,rfl⟩
theorem Jx{recv recv':Value}{name:String}{rest xL:List Value}{f:FuncId}{b2:List Value}(av:bu μ recv recv')(aD:ca μ rest xL)(he:yA P H recv name rest=some (f,b2)):
 ∃iX,(callMethod recv' name xL.toArray).run P w=(callFunc f iX.toArray).run P w/\ca μ b2 iX:=by
 unfold yA at he;cases recv with
 |iface t v=>
  obtain⟨v',rfl,az⟩:=av.xg;simp only at he;cases ar:P.info? t with
  |none=>rw[ar] at he;simp at he
  |some i=>
   rw[ar] at he;simp only at he;cases hm:i.methods.find? (·.name==name) with
   |none=>rw[hm] at he;simp at he
   |some m=>
    rw[hm] at he;simp only at he;cases ap:m.path.isEmpty with
    |false=>rw[ap] at he;simp at he
    |true=>
     rw[ap] at he;simp only[ov,dB] at he;have aiK:m.path=#[]:=by simpa using ap
     cases aM:m.func with
     |none=>rw[aM] at he;simp at he
     |some q=>
      obtain⟨g,xI⟩:=q;rw[aM] at he;simp only at he;have key:∀iF,(∀Hi,(receiverAt t (.val v') xI Hi).run P w=.ok iF w)->f=g->(callMethod (.iface t v') name xL.toArray).run P w=(callFunc f (iF::xL).toArray).run P w:=by
       intro iF Gw ah6;subst ah6;have ait:(method (P.types.size+Made.depth) t v' name).run P w=.ok (f,iF) w:=by
        have:P.types.size+Made.depth=(P.types.size+99)+1:=rfl;rw[this];generalize P.types.size+99=k;simp[method,typeInfo,ar,hm,aiK,follow,aM,Gw]
       simp[callMethod,ait]
      cases hu:P.underlying t with
      |none=>rw[hu] at he;simp at he
      |some d=>
       rw[hu] at he;cases d with
       |pointer elem=>
        cases xI with
        |true=>
         simp only[cD,dK] at he;obtain⟨rfl,rfl⟩:=he;exact⟨v'::xL,key v' (fun Hi=>by simp[receiverAt,eY hu,Place.get]) rfl,ca.cons az aD⟩
        |false=>simp at he
       |_=>
        cases xI with
        |true=>simp at he
        |false=>
         simp only[cD,dK] at he;obtain⟨rfl,rfl⟩:=he;exact⟨v'::xL,key v' (fun Hi=>by simp[receiverAt,eY hu,Place.get]) rfl,ca.cons az aD⟩
 |_=>simp at he
theorem NH{fn:Fn}{args cq cap ej:List Value}{f:FuncId}{b2:List Value}(aI:ca μ args cq)(aJ:ca μ cap ej)(he:kY P H fn args cap=some (f,b2)):
 ∃iX,(invoke (.fn fn ej.toArray) cq.toArray).run P w=(callFunc f iX.toArray).run P w/\ca μ b2 iX:=by
 unfold kY at he;cases fn with
 |func g=>
  simp only[cD,dK] at he;obtain⟨rfl,rfl⟩:=he;refine⟨cq++ej,?_,aI.append aJ⟩;simp[invoke]
 |method name=>
  cases args with
  |nil=>simp at he
  |cons r rest=>
   obtain⟨cW,xL,rfl,ad,af⟩:=aI.jH;obtain⟨iX,a,b⟩:=Jx (w:=w) ad af he;refine⟨iX,?_,b⟩;rw[<-a];simp[invoke]
 |methodOf t name=>
  cases args with
  |nil=>simp at he
  |cons r rest=>
   obtain⟨cW,xL,rfl,ad,af⟩:=aI.jH;simp only at he;cases hu:P.underlying t with
   |none=>rw[hu] at he;simp at he
   |some d=>
    rw[hu] at he;by_cases aq:∃KS,d=.interface KS
    ·obtain⟨KS,rfl⟩:=aq;obtain⟨iX,a,b⟩:=Jx (w:=w) ad af he;refine⟨iX,?_,b⟩;rw[<-a];simp[invoke,eY hu]
    ·have qm:yA P H (.iface t r) name rest=some (f,b2):=by
      cases d<;>first|exact he|exact absurd ⟨_,rfl⟩ aq
     obtain⟨iX,a,b⟩:=Jx (w:=w) (.iface t r cW ad) af qm;refine⟨iX,?_,b⟩;rw[<-a];cases d<;>first|exact absurd ⟨_,rfl⟩ aq|simp[invoke,eY hu]
 |_=>simp at he
theorem UN(h:cd P B w0 μ H w)(aS:kq μ S.T n tmps){c:Call}{r:cT}(aJ:o.op=.call c)(yQ:∀b,c.callee≠.builtin b)(he:n0 P call aQ S.T H c=some r):nP P B w0 call aQ μ H w (execOp (df tmps) o) r:=by
 unfold n0 at he;have nw:∀args,fz S.T H c.args.toList=some args->ca μ args (c.args.map (df tmps)).toList:=fun args q=>by
  have:=HG h aS q;simpa using this
 have fin:∀f b2 iX,(execOp (df tmps) o).run P w=(callFunc f iX.toArray).run P w->ca μ b2 iX->pk (call f b2 H)=some r->nP P B w0 call aQ μ H w (execOp (df tmps) o) r:=by
  intro f b2 iX ad af aV;cases ih:call f b2 H with
  |none=>rw[ih] at aV;simp[pk] at aV
  |some p=>
   obtain⟨e,H1⟩:=p;rw[ih] at aV;cases e with
   |returned v=>simp[pk] at aV;subst aV;exact .inr (.inl ⟨f,b2,iX,ad,af,ih⟩)
   |panicked ct=>simp[pk] at aV;subst aV;exact .inr ⟨f,b2,iX,ad,af,ih⟩
   |outgrown=>simp[pk] at aV
 cases aI:fz S.T H c.args.toList with
 |none=>rw[aI] at he;simp at he
 |some args=>
  rw[aI] at he;simp only at he;have aD:=nw args aI;cases m4:c.callee with
  |builtin b=>exact absurd m4 (yQ b)
  |invoke recv name=>
   rw[m4] at he;simp only at he;cases av:ba S.T H recv with
   |none=>rw[av] at he;simp at he
   |some RC=>
    rw[av] at he;simp only at he;cases hm:yA P H RC name args with
    |none=>rw[hm] at he;simp at he
    |some p=>
     obtain⟨f,b2⟩:=p;rw[hm] at he;obtain⟨iX,bO,bA⟩:=Jx (w:=w) (ua h aS av) aD hm;refine fin f b2 iX ?_ bA he;rw[<-bO];have jC:(#[df tmps recv]++Array.map (df tmps) c.args)[0]?=some (df tmps recv):=by rw[aa0 (by simp)];rfl
     have aC:(Array.map (df tmps) c.args).extract 0 c.args.size=(List.map (df tmps) c.args.toList).toArray:=by apply rS;simp;exact dd (by simp)
     simp[execOp,aJ,resolve,m4,invoke,jC,aC]
  |value NU=>
   rw[m4] at he;simp only at he;cases aM:ba S.T H NU with
   |none=>rw[aM] at he;simp at he
   |some k0=>
    rw[aM] at he;have kL:=ua h aS aM;cases k0 with
    |func fn first captured=>
     rcases kL.CF with⟨bV,b',az,tJ,ad,af⟩|⟨l,L,rfl,bB,rfl,rfl,az⟩
     ·have qm:(match kY P H fn (first.toList++args) captured.toList with|some (f,b2)=>pk (call f b2 H)|none=>none)=some r:=by
       cases fn<;>first|exact he|(simp[xv] at tJ)
      cases hm:kY P H fn (first.toList++args) captured.toList with
      |none=>rw[hm] at qm;simp at qm
      |some p=>
       obtain⟨f,b2⟩:=p;rw[hm] at qm;obtain⟨iX,bO,bA⟩:=NH (w:=w) (ad.append aD) af hm;refine fin f b2 iX ?_ bA qm;rw[<-bO];have aC:(bV.toList++(c.args.map (df tmps)).toList).toArray=bV++c.args.map (df tmps):=by apply rS;simp
       have aW:b'.toList.toArray=b':=by simp
       rw[aC,aW];simp[execOp,aJ,resolve,m4,Deferred.ofValue,az]
     ·simp only[Array.isEmpty_empty,x5,cv] at he;cases aB:aQ l args H with
      |none=>rw[aB] at he;simp[Ij] at he
      |some p=>
       obtain⟨e,H1⟩:=p;rw[aB] at he;cases e with
       |returned v=>
        simp[Ij] at he;subst he;refine .inr (.inr ⟨l,L,args,(c.args.map (df tmps)).toList,bB,?_,aD,aB⟩);have aC:(List.map (df tmps) c.args.toList).toArray=c.args.map (df tmps):=by apply rS;simp
        simp[execOp,aJ,resolve,m4,Deferred.ofValue,az,invoke,aC]
       |panicked ct=>simp[Ij] at he
       |outgrown=>simp[Ij] at he
    |_=>simp at he
end
end
end Go.Cre
namespace Go.Cre
noncomputable section
open Go.RowKit
section
variable {P:Program}{B:Nat->Prop}{w0 w:World}{μ:b5}{H H':aw}{n:Nat}{tmps:Array Value}
variable {call:eZ}{aQ:hd}{o:Oper}{S:a5}
theorem ajX{α:Type}{l:List α}(h:isNil l=true):l=[]:=by
 cases l with
 |nil=>rfl
 |cons a l=>cases h
theorem aeg{α:Type}(k:Nat)(l:List α):wu (k+1) l=Option.rec (motive:=fun _=>Option (List α)) none (wu k) (wu k l):=rfl
theorem aef{α:Type}:∀{k:Nat} {l r:List α},wu k l=some r->l.length=2 ^ k+r.length:=by
 intro k;induction k with
 |zero=>
  intro l r h;cases l with
  |nil=>cases h
  |cons v l=>
   have h:some l=some r:=h;injection h with h;subst h;simp;omega
 |succ k aZ=>
  intro l r h;rw[aeg] at h;cases ad:wu k l with
  |none=>rw[ad] at h;cases h
  |some m=>
   rw[ad] at h;have h:wu k m=some r:=h;have aC:=aZ ad;have aW:=aZ h;rw[fC];omega
theorem ael{α:Type}(k n:Nat)(l:List α):z8 (k+1) n l=Option.rec (motive:=fun _=>Option Nat) (z8 k n l) (fun r=>z8 k (Nat.add n (Nat.pow 2 k)) r) (wu k l):=rfl
theorem Uu{α:Type}:∀{k n m:Nat} {l:List α},z8 k n l=some m->m=n+l.length:=by
 intro k;induction k with
 |zero=>
  intro n m l h;have h:Bool.rec (motive:=fun _=>Option Nat) none (some n) (isNil l)=some m:=h;cases aE:isNil l with
  |false=>rw[aE] at h;cases h
  |true=>rw[aE] at h;injection h with h;rw[ajX aE];simp[h]
 |succ k aZ=>
  intro n m l h;rw[ael] at h;cases ad:wu k l with
  |none=>rw[ad] at h;exact aZ h
  |some r=>
   rw[ad] at h;have h:z8 k (n+2 ^ k) r=some m:=h;have aC:=aef ad;have aW:=aZ h;omega
theorem Xq{α:Type}{l:List α}{n:Nat}(h:A3 l=some n):n=l.length:=by
 unfold A3 at h;cases ak:isNil (nY 256 l) with
 |true=>rw[ak,cv] at h;injection h with h;exact h.symm
 |false=>
  rw[ak,dB] at h;split at h
  ·rename_i m hm;injection h with h;subst h
   have:=Uu hm;omega
  ·split at h
   ·rename_i m hm;injection h with h;subst h
    have:=Uu hm;omega
   ·injection h with h;exact h.symm
theorem Yy(h:cd P B w0 μ H w){T:a4 Value}(aS:kq μ T n tmps){x:Option Operand}{v:Option Value}(he:hH T H x=some v):EH μ v (x.map (df tmps)):=by
 cases x with
 |none=>simp[hH] at he;subst he;trivial
 |some x=>
  simp only[hH] at he;cases ab:ba T H x with
  |none=>rw[ab] at he;simp at he
  |some u=>rw[ab] at he;simp at he;subst he;exact ua h aS ab
theorem afo(h:cd P B w0 μ H w)(aS:kq μ S.T n tmps){c:Call}{b:Builtin}{r:cT}(aJ:o.op=.call c)(ak:c.callee=.builtin b)(he:qh P S H o b c=some r):nP P B w0 call aQ μ H w (execOp (df tmps) o) r:=by
 have PH:∀cs b,o.op≠.select cs b:=fun cs b q=>by rw[aJ] at q;cases q
 have su:fk P S.T H o=some r->nP P B w0 call aQ μ H w (execOp (df tmps) o) r:=Fz h aS PH;obtain⟨cs,hex⟩:∃cs,execOp (df tmps) o=builtin b c.argTypes o.type cs (c.args.map (df tmps)):=⟨_,by simp[execOp,aJ,resolve,ak,invoke];rfl⟩;unfold qh at he;cases aI:fz S.T H c.args.toList with
 |none=>rw[aI] at he;simp at he
 |some args=>
  rw[aI] at he;have aD:ca μ args (c.args.map (df tmps)).toList:=by have:=HG h aS aI;simpa using this
  simp only at he;have va:∀l,(c.args.map (df tmps)).toList=l->c.args.map (df tmps)=l.toArray:=fun l q=>by rw[<-q]
  have yU:∀l,c.argTypes.toList=l->c.argTypes=l.toArray:=fun l q=>by rw[<-q]
  split at he
  ·--len of a slice
   rename_i a m wo t py;split at he
   ·rename_i e hu;injection he with he;subst he
    obtain⟨v',l',aC,ad,af⟩:=aD.jH;have:=af.k5;subst this;refine .inl ⟨.int .i64 m,w,μ,?_,h,Step.refl _ _,.atom _ rfl⟩;rw[hex,va _ aC,yU _ py];cases a with
    |none=>rw[ad.sW];simp[builtin,Builtin.len_,eY hu,goInt]
    |some a=>obtain⟨_,_,rfl⟩:=ad.zo;simp[builtin,Builtin.len_,eY hu,goInt]
   ·cases he
  ·--len of a map
   rename_i b1 t py;split at he
   ·rename_i k e hu;split at he
    ·rename_i es clock hm;injection he with he;subst he
     obtain⟨v',l',aC,ad,af⟩:=aD.jH;have:=af.k5;subst this;obtain⟨L,bB,rfl⟩:=ad.G5;obtain⟨nq,Jp,ck,ch⟩:=h.map bB hm;have wW:(getObj L.r).run P w=.ok (.map nq Jp) w:=by simp[getObj,Sem.run,ck]
     have hlen:nq.size=es.length:=by have:=ch.length;simp at this;omega
     refine .inl ⟨.int .i64 es.length,w,μ,?_,h,Step.refl _ _,.atom _ rfl⟩;rw[hex,va _ aC,yU _ py];simp[builtin,Builtin.len_,eY hu,goInt,wW,hlen]
    ·cases he
   ·cases he
  ·--len of a string
   rename_i s t py;split at he
   ·rename_i hu;have he:some (cT.val (.int .i64 s.data.toList.length) H)=some r:=by
     cases hle:A3 s.data.toList with
     |none=>rw[hle] at he;cases he
     |some n=>
      rw[hle] at he;simp only at he;rw[tt] at he;rw[<-Xq hle];exact he
    injection he with he;subst he
    obtain⟨v',l',aC,ad,af⟩:=aD.jH;have:=af.k5;subst this;have gZ:(Builtin.len_ #[t] o.type #[.string s]).run P w=.ok (goInt s.size) w:=by simp[Builtin.len_,eY hu]
    refine .inl ⟨goInt s.size,w,μ,?_,h,Step.refl _ _,.atom _ rfl⟩;rw[hex,va _ aC,yU _ py,ad.HW];simp[builtin,gZ]
   ·cases he
  ·--append
   rename_i s x gF hM py;split at he
   ·cases he
   ·rename_i d aq hu;obtain⟨v',l',aC,ad,af⟩:=aD.jH;obtain⟨H6,KF,rfl,aV,bq⟩:=af.jH;have:=bq.k5;subst this;have:=xF (call:=call) (aQ:=aQ) (s:=Builtin.append_ #[gF,hM] o.type #[v',H6]) (fun v H' q=>afl h ad aV hu (fun k q=>aq k q) q) he;rw[hex,va _ aC,yU _ py];exact this
   ·cases he
  ·--cap
   rename_i a m wo t py;split at he
   ·rename_i e hu;cases eA:Nat.beq wo cQ with
    |true=>rw[eA] at he;cases he
    |false=>
     rw[eA,dB] at he;injection he with he;subst he
     obtain⟨v',l',aC,ad,af⟩:=aD.jH;have:=af.k5;subst this;have eh:wo≠cQ:=fun q=>by rw[q,hY] at eA;cases eA
     obtain⟨bV,rfl⟩:=ad.an8 eh;refine .inl ⟨.int .i64 wo,w,μ,?_,h,Step.refl _ _,.atom _ rfl⟩;rw[hex,va _ aC,yU _ py];simp[builtin,Builtin.cap_,eY hu,goInt]
   ·cases he
  ·--sX atK data
   rename_i a m wo;cases eA:(Nat.beq wo cQ&&Nat.beq m 0) with
   |true=>rw[eA] at he;cases he
   |false=>
    rw[eA,dB] at he;cases lu:Nat.beq wo 0 with
    |true=>rw[lu] at he;cases he
    |false=>
     rw[lu,dB] at he;injection he with he;subst he
     obtain⟨v',l',aC,ad,af⟩:=aD.jH;have:=af.k5;subst this;have lu:wo≠0:=fun q=>by rw[q] at lu;cases lu
     obtain⟨id,off,L,fV,ej,rfl,bB,rfl,aj,_,tF⟩:=ad.vN (.inr (.inr (by omega)));have hm:wo=cQ->m≠0:=fun q dG=>by subst q;subst dG;rw[hY] at eA;cases eA
     have m5:ej≠0/\fV=off:=by
      rcases tF with⟨_,rfl,rfl⟩|⟨q,aU,rfl,_⟩|⟨q,aU,_⟩
      ·exact⟨lu,rfl⟩
      ·exact⟨by have:=hm q;omega,rfl⟩
      ·exact absurd aU (hm q)
     obtain⟨m5,rfl⟩:=m5;refine .inl ⟨.pointer (some ⟨L.r,fV,none⟩),w,μ,?_,h,Step.refl _ _,.ptr id fV L bB⟩;have gZ:(Builtin.unsafeSliceData_ c.argTypes o.type #[.slice (some ⟨L.r,fV,none⟩) m ej]).run P w=.ok (.pointer (some ⟨L.r,fV,none⟩)) w:=by
      show((if ej≠0 then pure _ else _:Sem Value)).run P w=_;rw[bj m5];rfl
     rw[hex,va _ aC];simp[builtin,gZ]
  ·--a string over bytes
   rename_i p m sO it py;obtain⟨v',l',aC,ad,af⟩:=aD.jH;obtain⟨H6,KF,rfl,aV,bq⟩:=af.jH;have:=bq.k5;subst this;have:=xF (call:=call) (aQ:=aQ) (s:=Builtin.unsafeString_ #[sO,it] o.type #[v',H6]) (fun v H' q=>by
    obtain⟨bO,bA,cU,dn,cK,e6⟩:=afQ h ad aV q;exact⟨bO,bA,μ,cU,dn,cK,e6⟩) he
   rw[hex,va _ aC,yU _ py];exact this
  ·--copy
   rename_i d s rI gF py;obtain⟨v',l',aC,ad,af⟩:=aD.jH;obtain⟨H6,KF,rfl,aV,bq⟩:=af.jH;have:=bq.k5;subst this;have:=xF (call:=call) (aQ:=aQ) (s:=Builtin.copy_ #[rI,gF] o.type #[v',H6]) (fun v H' q=>by
    obtain⟨bO,bA,cU,dn,cK,e6⟩:=afr h ad aV q;exact⟨bO,bA,μ,cU,dn,cK,e6⟩) he
   rw[hex,va _ aC,yU _ py];exact this
  ·--clear
   rename_i x t py;obtain⟨v',l',aC,ad,af⟩:=aD.jH;have:=af.k5;subst this;have:=xF (call:=call) (aQ:=aQ) (s:=Builtin.clear_ #[t] o.type #[v']) (fun v H' q=>by
    obtain⟨bO,bA,cU,dn,cK,e6⟩:=afp h ad q;exact⟨bO,bA,μ,cU,dn,cK,e6⟩) he
   rw[hex,va _ aC,yU _ py];exact this
  ·--panic
   rename_i t v;injection he with he;subst he
   obtain⟨v',l',aC,ad,af⟩:=aD.jH;have:=af.k5;subst this;obtain⟨dP,rfl,ab⟩:=ad.xg;refine .inl ⟨.iface t v,.iface t dP,rfl,rfl,?_,.iface t v dP ab⟩;rw[hex,va _ aC];simp[builtin,Instr.panic,goPanic,Sem.run]
  ·--recover
   have aC:=aD.k5;have gZ:(execOp (df tmps) o).run P w=.ok .recover w:=by rw[hex];simp[builtin]
   injection he with he;subst he
   exact gZ
  ·exact su he
theorem afs(h:cd P B w0 μ H w)(aS:kq μ S.T n tmps){c:Call}{r:cT}(aJ:o.op=.defer c)(he:Fw P S.T H c=some r):nP P B w0 call aQ μ H w (execOp (df tmps) o) r:=by
 unfold Fw at he;cases aI:fz S.T H c.args.toList with
 |none=>rw[aI] at he;simp at he
 |some args=>
  rw[aI] at he;simp only at he;have aD:ca μ args (c.args.map (df tmps)).toList:=by have:=HG h aS aI;simpa using this
  cases m4:c.callee with
  |builtin b=>rw[m4] at he;simp at he
  |invoke recv name=>
   rw[m4] at he;simp only at he;cases av:ba S.T H recv with
   |none=>rw[av] at he;simp at he
   |some RC=>
    rw[av] at he;simp only[cD] at he;subst he;refine⟨.method name,#[],#[],RC::args,df tmps recv::(c.args.map (df tmps)).toList,rfl,?_,rfl,ca.nil _,ca.cons (ua h aS av) aD⟩;have aC:(df tmps recv::(c.args.map (df tmps)).toList).toArray=#[df tmps recv]++c.args.map (df tmps):=by apply rS;simp
    rw[aC];simp[execOp,aJ,resolve,m4]
  |value NU=>
   rw[m4] at he;simp only at he;cases aM:ba S.T H NU with
   |none=>rw[aM] at he;simp at he
   |some k0=>
    rw[aM] at he;have kL:=ua h aS aM;cases k0 with
    |func fn first captured=>
     simp only at he;cases tJ:xv fn with
     |false=>rw[tJ] at he;simp at he
     |true=>
     rw[tJ] at he;simp only[cv,cD] at he;subst he;rcases kL.CF with⟨bV,b',az,_,ad,af⟩|⟨l,L,rfl,bB,rfl,rfl,az⟩
     ·refine⟨fn,captured,b',first.toList++args,bV.toList++(c.args.map (df tmps)).toList,rfl,?_,tJ,af,ad.append aD⟩;have aC:(bV.toList++(c.args.map (df tmps)).toList).toArray=bV++c.args.map (df tmps):=by apply rS;simp
      rw[aC];simp[execOp,aJ,resolve,m4,Deferred.ofValue,az]
     ·simp[xv] at tJ
    |_=>simp at he
end
end
end Go.Cre

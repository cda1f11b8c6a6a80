/- A part of the proof of TableTurns. -/
import Derived.Test.YtlgjlbpafcifoaaGreatDoorCae
import Derived.Laws.BytesString
import Derived.Laws.IdiomStrings
import Derived.Laws.BytesArg
import Derived.Lib.UnsafeStr
import Derived.Laws.BitsLemmas
set_option linter.unusedVariables false
set_option linter.unusedSimpArgs false
namespace Go.Cre
noncomputable section
open Go.RowKit
section
variable {P:Program}{B:Nat->Prop}{w0 w:World}{μ:bL}{H H':an}
theorem TR:∀{l:List Value} {kK:List UInt8},pU l=some kK->l=kK.map (fun b=>Value.int .u8 (b.toNat:Int)):=by
 intro l;induction l with
 |nil=>intro kK h;simp[pU] at h;subst h;rfl
 |cons v l aP=>
  intro kK h;cases v with
  |int k n=>
   cases k with
   |u8=>
    cases n with
    |ofNat n=>
     simp only[pU] at h;cases b9:Nat.blt n 256 with
     |false=>rw[b9] at h;simp at h
     |true=>
      rw[b9,b4] at h;have b9:n<256:=hv b9;cases ai:pU l with
      |none=>rw[ai] at h;simp at h
      |some r=>
       rw[ai] at h;simp only[cl] at h;subst h;rw[uj,<-aP ai];congr 2
       have:(UInt8.ofNat n).toNat=n:=by simp;omega
       rw[this];rfl
    |negSucc n=>simp[pU] at h
   |_=>simp[pU] at h
  |_=>simp[pU] at h
theorem bT.bytes{kK:List UInt8}{l':List Value}(h:bT μ (kK.map fun b=>Value.int .u8 (b.toNat:Int)) l'):l'=kK.map fun b=>Value.int .u8 (b.toNat:Int):=by
 induction kK generalizing l' with
 |nil=>exact h.kz
 |cons b kK aP=>
  obtain⟨v',t,rfl,ab,ad⟩:=h.iZ;rw[ab.qf,aP ad];rfl
theorem akr{v:Value}(h:isByte v=true):∃n,v=.int .u8 (.ofNat n)/\Nat.blt n 256=true:=by
 cases v with
 |int k i=>
  cases k with
  |u8=>cases i with
   |ofNat n=>exact⟨n,rfl,h⟩
   |negSucc n=>cases h
  |_=>cases h
 |_=>cases h
theorem ac4:∀(c r:List Value),(∀v∈c,isByte v=true)->pU c=some (aae c.length (c++r)):=by
 intro c;induction c with
 |nil=>intro r _;cases r<;>rfl
 |cons v c aP=>
  intro r h;obtain⟨n,rfl,az⟩:=akr (h v (by simp));have ak:=aP r fun u hu=>h u (by simp[hu]);simp only[pU,az,b4,ak];rfl
theorem aeB(k:Nat)(l:List Value):v7 (k+1) l=Option.rec (motive:=fun _=>Option (List Value)) none (v7 k) (v7 k l):=rfl
theorem aeA:∀{k:Nat} {l r:List Value},v7 k l=some r->∃c,l=c++r/\c.length=2 ^ k/\∀v∈c,isByte v=true:=by
 intro k;induction k with
 |zero=>
  intro l r h;cases l with
  |nil=>cases h
  |cons v l=>
   have h:Bool.rec (motive:=fun _=>Option (List Value)) none (some l) (isByte v)=some r:=h;cases ai:isByte v with
   |false=>rw[ai] at h;cases h
   |true=>rw[ai] at h;injection h with h;subst h;exact⟨[v],rfl,rfl,fun u hu=>by simp at hu;rw[hu];exact ai⟩
 |succ k aP=>
  intro l r h;rw[aeB] at h;cases ab:v7 k l with
  |none=>rw[ab] at h;cases h
  |some m=>
   rw[ab] at h;have h:v7 k m=some r:=h;obtain⟨bp,rfl,aR,cf⟩:=aP ab;obtain⟨bN,rfl,cr,hB⟩:=aP h;refine⟨bp++bN,by simp,by simp[aR,cr,ff];omega,fun v ar=>?_⟩;rcases nB.1 ar with q|q
   ·exact cf v q
   ·exact hB v q
theorem aez(k n:Nat)(l:List Value):zM (k+1) n l=Bool.rec (motive:=fun _=>Bool) (Option.rec (motive:=fun _=>Bool) false (fun r=>zM k (Nat.sub n (Nat.pow 2 k)) r) (v7 k l)) (zM k n l) (Nat.blt n (Nat.pow 2 k)):=rfl
theorem aey:∀{k n:Nat} {l:List Value},zM k n l=true->∃c r,l=c++r/\c.length=n/\∀v∈c,isByte v=true:=by
 intro k;induction k with
 |zero=>
  intro n l h;have h:Nat.beq n 0=true:=h;exact⟨[],l,rfl,(eb h).symm,fun v ar=>by cases ar⟩
 |succ k aP=>
  intro n l h;rw[aez] at h;cases ai:Nat.blt n (Nat.pow 2 k) with
  |true=>rw[ai] at h;exact aP h
  |false=>
   rw[ai] at h;have jq:2 ^ k<=n:=by
    rcases hL n (2 ^ k) with q|q
    ·have:Nat.blt n (Nat.pow 2 k)=true:=lH q;rw[ai] at this;cases this
    ·exact q
   cases ab:v7 k l with
   |none=>rw[ab] at h;cases h
   |some m=>
    rw[ab] at h;have h:zM k (n -2 ^ k) m=true:=h;obtain⟨bp,rfl,aR,cf⟩:=aeA ab;obtain⟨bN,r,rfl,cr,hB⟩:=aP h;have cr:bN.length=n -2 ^ k:=cr;refine⟨bp++bN,r,by simp,by rw[eY,aR,cr];omega,fun v ar=>?_⟩;rcases nB.1 ar with q|q
    ·exact cf v q
    ·exact hB v q
theorem ap2{α:Type}:∀{c:List α} (r:List α),takeN c.length (c++r)=some c:=by
 intro c;induction c with
 |nil=>intro r;rfl
 |cons a c aP=>intro r;simp only[lc,BH,takeN];rw[aP r]
theorem af4{src dst:TypeId}{x v:Value}(he:NC P H src dst x=some v):Cf P H src dst x=some v:=by
 unfold NC at he;unfold Cf;cases ab:P.underlying src with
 |none=>rw[ab] at he;cases he
 |some ts=>
  rw[ab] at he;cases ad:P.underlying dst with
  |none=>rw[ad] at he;cases ts<;>cases he
  |some rv=>
   rw[ad] at he;cases ts with
   |slice e=>
    cases rv with
    |string=>
     cases x with
     |slice b len cap=>
      cases b with
      |none=>cases he
      |some a=>
       simp only at he ⊢;cases aK:P.underlying e with
       |none=>rw[aK] at he;cases he
       |some aai=>
        rw[aK] at he;cases aH:a.spot with
        |some s=>rw[aH] at he;cases aai<;>first|(cases he;done)|(rename_i k;cases k<;>cases he)
        |none=>
         rw[aH] at he;cases aai with
         |int k=>
          cases k with
          |u8=>
           cases bJ:H.mem.get a.block with
           |none=>rw[bJ] at he;cases he
           |some fj=>
            rw[bJ] at he;cases fj with
            |row cells el opn bw ef sh=>
             simp only at he ⊢;unfold aaj at he;cases al:zM 21 len (nP a.off cells) with
             |false=>rw[al] at he;cases he
             |true=>
              rw[al,b4] at he;obtain⟨c,r,aw,aR,cf⟩:=aey al;have aA:jn H 1 len (.slice (some a) len 0)=some c:=by
               unfold jn;simp only[aH];cases len with
               |zero=>simp only;rw[zk.1 aR]
               |succ m=>
                simp only[bJ,gJ];rw[aw,<-aR];exact ap2 r
              simp only[aA,ac4 c r cf,yL,aH,oc,da];rw[aR,<-aw];exact he
            |_=>cases he
          |_=>cases he
         |_=>cases he
     |_=>cases he
    |_=>cases x<;>first|(cases he;done)|(rename_i b _ _;cases b<;>cases he)
   |_=>cases he
theorem af3{src dst:TypeId}{x v:Value}(he:NB P H src dst x=some v):Cf P H src dst x=some v:=by
 unfold NB at he;cases ap:Qi x with
 |false=>rw[ap] at he;exact he
 |true=>rw[ap] at he;exact af4 he
theorem af5(h:bX P B w0 μ H w){src dst:TypeId}{x dv v:Value}(U:bg μ x dv)(he:Cf P H src dst x=some v):
 ∃v',(convert src dst dv).run P w=.ok v' w/\bg μ v v':=by
 unfold Cf at he;cases hu:P.underlying src with
 |none=>rw[hu] at he;simp at he
 |some ds=>
  rw[hu] at he;cases al:P.underlying dst with
  |none=>rw[al] at he;simp at he
  |some zO=>
   rw[al] at he;cases ds with
   |slice e=>
    cases zO with
    |string=>
     cases x with
     |slice a len cap=>
      cases a with
      |none=>
       rw[U.sx];simp only at he;cases e6:P.underlying e with
       |none=>rw[e6] at he;simp at he
       |some Nd=>
        rw[e6] at he;cases Nd with
        |int k=>
         cases k with
         |u8=>
          simp only[cl] at he;subst he;refine⟨.string .empty,?_,.atom _ rfl⟩;rw[run_convert_bytes_string w src dst e _ _ _ hu e6 al];simp[Conv.bytesToString]
         |_=>simp at he
        |_=>simp at he
      |some a=>
       have ls:a.spot=none:=by
        cases q:a.spot with
        |none=>rfl
        |some _=>simp[yL,q] at he
       obtain⟨id,off,L,fI,dT,rfl,a4,rfl,ah,_,_⟩:=U.vq (.inl ls);simp only[yL,oc,da] at he;cases e6:P.underlying e with
       |none=>rw[e6] at he;simp at he
       |some Nd=>
        rw[e6] at he;cases Nd with
        |int k=>
         cases k with
         |u8=>
          simp only at he;cases aA:jn H 1 len (.slice (some ⟨id,off,none⟩) len 0) with
          |none=>rw[aA] at he;simp at he
          |some cells=>
           rw[aA] at he;simp only at he;cases ai:pU cells with
           |none=>rw[ai] at he;simp at he
           |some kK=>
            rw[ai] at he;simp only[cl] at he;subst he;have JD:=TR ai;have PA:bg μ (.slice (some ⟨id,off,none⟩) len 0) (.slice (some ⟨L.r,off,none⟩) len 0):=.nu id off len 0 L a4 (by decide);obtain⟨l',bY,bZ⟩:=I5 h PA (m:=len) rfl (bF _) aA;rw[JD] at bY;have dc:=bY.bytes;subst dc;have JN:(loadCells ⟨L.r,fI,none⟩ len).run P w=.ok ((kK.map fun b=>(b.toNat:Int)).map (Value.int .u8)).toArray w:=by
             by_cases aN:0<len
             ·rw[ah aN];have:=bZ w.drawn;simp only[Builtin.firstCells,gJ] at this;rw[this];simp
             ·have wI:len=0:=by omega
              subst wI;have rZ:kK.map (fun b=>Value.int .u8 (b.toNat:Int))=[]:=by
               rw[<-JD];simp[jn] at aA;exact aA
              have:kK=[]:=by simpa using rZ
              subst this;simp[loadCells,loadCellsFrom]
            refine⟨.string ⟨kK.toArray⟩,?_,.atom _ rfl⟩;rw[run_convert_bytes_string w src dst e _ _ _ hu e6 al,run_bytesToString w ⟨L.r,fI,none⟩ len dT _ JN,foldl_push_bytes];congr 2
            have uT:((fun n:Int=>UInt8.ofNat n.toNat) ∘ fun b:UInt8=>(b.toNat:Int))=_root_.id:=by funext b;simp
            apply ByteArray.ext
            simp[uT]
         |_=>simp at he
        |_=>simp at he
     |_=>simp at he
    |_=>simp at he
   |_=>cases zO<;>simp at he
theorem agu{r n:Nat}{c:Array Value}{e:TypeId}{f:Nat×Nat}(h:w.heap[r]?=some (.cells c e f))(az:n≠0):
 w.freeze ⟨r,0,none⟩ n={w with heap:=w.heap.setIfInBounds r (.cells c e (if f.1==f.2 then(0,0+n) else(min f.1 0,max f.2 (0+n))))}:=by
 have aq:r<w.heap.size:=by
  rcases hL r w.heap.size with cT|cT
  ·exact cT
  ·rw[sE cT] at h;cases h
 unfold World.freeze;rw[aZ az];congr 1
 apply DW
 intro i;rw[aa8,zg];by_cases ak:r=i
 ·subst ak;rw[a2 rfl,a2 rfl,h,a2 aq];rfl
 ·simp[ak]
theorem af7(h:bX P B w0 μ H w){sq it dx:TypeId}{p hG n Kw v:Value}(ao:bg μ p hG)(az:bg μ n Kw)(he:ND P H sq p n=some (v,H')):
 ∃v' a5,(Builtin.unsafeString_ #[sq,it] dx #[hG,Kw]).run P w=.ok v' a5/\bX P B w0 μ H' a5/\Step μ μ H H'/\bg μ v v':=by
 unfold ND at he;cases p with
 |pointer a=>
  cases n with
  |int k i=>
   cases k with
   |i64=>
    obtain rfl:=az.qf;cases i with
    |ofNat m=>
     cases m with
     |zero=>
      cases a with
      |none=>
       rw[ao.Dz];simp only[cl,dm] at he;obtain⟨rfl,rfl⟩:=he;exact⟨_,w,Lib.run_unsafeString_none w sq it dx none,h,Step.refl _ _,.atom _ rfl⟩
      |some a=>
       obtain⟨id,off,L,rfl,a4,rfl⟩:=ao.oK;simp only[cl,dm] at he;obtain⟨rfl,rfl⟩:=he;exact⟨_,w,Lib.run_unsafeString_none w sq it dx _,h,Step.refl _ _,.atom _ rfl⟩
     |succ m=>
      cases a with
      |none=>exact absurd (show none=some (v,H') from he) (by simp)
      |some a=>
       obtain⟨id,off,L,rfl,a4,rfl⟩:=ao.oK;simp only at he;cases hu:P.underlying sq with
       |none=>rw[hu] at he;simp at he
       |some d=>
        rw[hu] at he;cases d with
        |pointer u=>
         cases hm:H.mem.get id with
         |none=>rw[hm] at he;simp at he
         |some b=>
          rw[hm] at he;cases b with
          |row cells e opn bw ef sh=>
           simp only at he;cases aD:(Nat.beq e u&&Nat.beq (P.cellsOf e) 1&&Nat.ble (m+1) 1000000&&!Nat.blt id H.bz&&Nat.beq off 0&&!sh) with
           |false=>rw[aD] at he;simp at he
           |true=>
            rw[aD] at he;simp only[oc,da] at he;simp only[gg,sG] at aD;obtain⟨⟨⟨⟨⟨aK,aH⟩,bJ⟩,dU⟩,fP⟩,je⟩:=aD;have aK:=eb aK;subst aK;have aH:=eb aH;have bJ:=hv bJ;have dU:=TM dU;have fP:=eb fP;subst fP;cases aJ:takeN (m+1) cells with
            |none=>rw[aJ] at he;simp at he
            |some l=>
             rw[aJ] at he;simp only at he;cases ai:pU l with
             |none=>rw[ai] at he;simp at he
             |some kK=>
              rw[ai] at he;simp only at he;cases PH:H.upd id (.row cells e opn bw (bif sh then s' else Nat.max ef (m+1)) sh) with
              |none=>rw[PH] at he;simp at he
              |some H0=>
               rw[PH] at he;simp only at he;cases OW:(bif opn then yD H0 id bw else some H0) with
               |none=>rw[OW] at he;simp at he
               |some H1=>
               rw[OW] at he;simp only[cl,dm] at he;obtain⟨rfl,rfl⟩:=he;obtain⟨c,f,bY,bZ,cz,fu,fM,gN,gp⟩:=h.row a4 hm;obtain⟨t1,t2,t3⟩:=DK aJ;have hle:=TR ai;have q3:kK.length=m+1:=by have:=b6 List.length hle;simp at this;omega
               have dc:bT μ l ((c.toList.take cells.length).take (m+1)):=by rw[t1];exact gN.take (m+1)
               rw[hle] at dc;have aib:=dc.bytes;have hn:w.shape? L.r=some (e,c.size):=by simp[World.shape?,bY]
               have gG:=Lib.run_unsafeString_row (P:=P) w sq it dx e hu aH L.r c.size hn kK (by intro q;rw[q] at q3;simp at q3) (by omega) (by omega) (fun j x aY=>by
                rw[Addr.qI,kH,cell_of_row bY];have:((c.toList.take cells.length).take (m+1))[j]?=some (Value.int .u8 (x.toNat:Int)):=by rw[aib,j6,aY];rfl
                rw[iH] at this;split at this
                ·rw[iH] at this;split at this
                 ·simpa using this
                 ·cases this
                ·cases this)
               rw[q3] at gG;have kg:=agu (n:=m+1) bY (by omega);rw[kg] at gG;have ai:jx P μ L (.row cells e opn bw (bif sh then s' else Nat.max ef (m+1)) sh) (.cells c e (if f.1==f.2 then(0,0+(m+1)) else(min f.1 0,max f.2 (0+(m+1))))):=by
                refine⟨rfl,bZ,cz,fu,fM,fun i v v' q dj=>gN.2 i v v' q ?_,?_⟩
                ·have ak:=(gS.1 q).1;rw[iH,a2 ak];simpa using dj
                ·cases sh with
                 |true=>cases je
                 |false=>
                  simp only[da];have CK:m+1<=Nat.max ef (m+1):=Nat.le_max_right _ _;have atn:ef<=Nat.max ef (m+1):=Nat.le_max_left _ _;rcases gp.2 rfl with q|q
                  ·rw[a2 (by simpa using q)];exact⟨fun off _ _ ad=>by simp at ad;omega,fun _=>.inr (by simpa using CK)⟩
                  ·by_cases p2:f.1=f.2
                   ·rw[a2 (by simpa using p2)];exact⟨fun off _ _ ad=>by simp at ad;omega,fun _=>.inr (by simpa using CK)⟩
                   ·rw[aZ (by simpa using p2)];have:max f.2 (0+(m+1))<=Nat.max ef (m+1):=Nat.max_le.2 ⟨by omega,by omega⟩;exact⟨fun off _ _ ad=>by simp only at ad;omega,fun _=>.inr this⟩
               obtain⟨cX,cW⟩:=h.aaY a4 dU hm rfl PH OW ai;exact⟨_,_,gG,cX,cW,.atom _ rfl⟩
          |_=>simp at he
        |_=>simp at he
    |negSucc m=>cases a<;>simp at he
   |_=>cases a<;>simp at he
  |_=>cases a<;>simp at he
 |_=>simp at he
theorem strCells_eq(l:List UInt8):strCells l=l.map fun b=>Value.int .u8 b.toNat:=by
 induction l with
 |nil=>rfl
 |cons b l aP=>show Value.int .u8 (.ofNat b.toNat)::strCells l=_;rw[aP];rfl
theorem an.al1{H H1:an}{cells:List Value}{e:TypeId}{sh:Bool}{id:Nat}(az:H.n8 cells e sh=some (id,H1)):H1.ay=H.ay+1:=by
 unfold an.n8 at az;cases aA:H.ve with
 |none=>rw[aA] at az;cases az
 |some p=>
  obtain⟨f,bK⟩:=p;rw[aA] at az;have ab:=(an.oG az).2.1;have ad:=(an.Kz aA).2.1;omega
theorem af1{src dst:TypeId}{s:ByteArray}{v:Value}{H1:an}(he:wg P H src dst s=some (v,H1)):H1.ay=H.ay+1:=by
 unfold wg at he;split at he
 ·split at he
  ·rename_i e _ _ _ _;cases ai:Nat.beq (P.cellsOf e) 1 with
   |false=>rw[ai] at he;cases he
   |true=>
    rw[ai,b4] at he;cases az:H.n8 (strCells s.data.toList) e true with
    |none=>rw[az] at he;cases he
    |some p=>
     obtain⟨id,bK⟩:=p;rw[az] at he;have he:some (Value.slice (some ⟨id,0,none⟩) s.data.toList.length cG,bK)=some (v,H1):=he;simp only[cl,dm] at he;obtain⟨_,rfl⟩:=he;exact an.al1 az
  ·cases he
 ·cases he
theorem af2(h:bX P B w0 μ H w){src dst:TypeId}{s:ByteArray}{v:Value}{H1:an}(he:wg P H src dst s=some (v,H1)):
 ∃v' a5 bf,(convert src dst (.string s)).run P w=.ok v' a5/\bX P B w0 bf H1 a5/\Step μ bf H H1/\bg bf v v':=by
 unfold wg at he;split at he
 ·rename_i e ab ad;split at he
  ·rename_i aL;cases ai:Nat.beq (P.cellsOf e) 1 with
   |false=>rw[ai] at he;cases he
   |true=>
    rw[ai,b4] at he;cases az:H.n8 (strCells s.data.toList) e true with
    |none=>rw[az] at he;cases he
    |some p=>
     obtain⟨id,bK⟩:=p;rw[az] at he;have he:some (Value.slice (some ⟨id,0,none⟩) s.data.toList.length cG,bK)=some (v,H1):=he;simp only[cl,dm] at he;obtain⟨rfl,rfl⟩:=he;have JD:=eb ai;have jq:=grownCap_ge w s.size 0 e;have dF:s.size=s.data.toList.length:=by rw[Array.length_toList];rfl
     have kV:(bytesRow s (grownCap w s.size 0 e)).size=grownCap w s.size 0 e:=by
      unfold bytesRow;have:s.data.size=s.size:=rfl;simp[this];omega
     obtain⟨a7,bc,rfl⟩:=h.drew.Qp (o:=.cells (bytesRow s (grownCap w s.size 0 e)) e ((bytesRow s (grownCap w s.size 0 e)).size,(bytesRow s (grownCap w s.size 0 e)).size+1)) (L:=⟨w.heap.size,grownCap w s.size 0 e,1⟩) az rfl (fun f=>by
      refine⟨rfl,kV,JD,?_,(fun q=>by cases q),fun i u h5 x y=>?_,⟨fun off ah ab ad=>?_,(fun q=>by cases q)⟩⟩
      ·rw[strCells_eq,eP,<-dF];exact jq
      ·rw[strCells_eq,j6] at x;obtain⟨b,ox,rfl⟩:=vL.1 x;have ak:i<s.data.size:=by
        have:=(gS.1 ox).1;simpa using this
       unfold bytesRow at y;rw[Sp,a2 (by simpa using ak)] at y;rw[Array.getElem?_map,<-Array.getElem?_toList,ox] at y;simp only[Iv,cl] at y;subst y;exact .atom _ rfl
      ·rw[kV] at ab;show off<0;have:off<grownCap w s.size 0 e:=ah;omega)
     refine⟨_,_,_,run_bytes_of_string w src dst e s ab ad aL,a7,bc,?_⟩;rw[<-dF];exact .pE H.ay 0 s.size _ ⟨w.heap.size,grownCap w s.size 0 e,1⟩ (bL.jP _ _ _) jq (by simp)
  ·cases he
 ·cases he
end
end
end Go.Cre
namespace Go.Cre
noncomputable section
open Go.RowKit
section
variable {P:Program}{B:Nat->Prop}{w0 w:World}{μ:bL}{H H':an}{T:aW Value}{n:Nat}{tmps:Array Value}
def cU(tmps:Array Value):Operand->Value
 |.tmp t=>tmps.getD t undef
 |.const v=>v
 |.global g=>.pointer (some ⟨g,0,none⟩)
 |.func f=>.func (.func f) #[] #[]
theorem tL(h:bX P B w0 μ H w)(aJ:jU μ T n tmps){x:Operand}{v:Value}(he:a1 T H x=some v):bg μ v (cU tmps x):=by
 cases x with
 |tmp t=>exact aJ.2 t v he
 |const c=>
  have he:(bif plain c then some c else none)=some v:=he;cases ao:plain c with
  |false=>rw[ao] at he;simp at he
  |true=>rw[ao] at he;simp at he;subst he;exact py ao
 |global g=>
  have he:Dx H g=some v:=he;unfold Dx at he;cases ax:Nat.blt g H.bz with
  |false=>rw[ax] at he;simp at he
  |true=>
   rw[ax,b4] at he;have ax:g<H.bz:=hv ax;cases hm:H.mem.get g with
   |none=>rw[hm] at he;simp at he
   |some b=>
    rw[hm] at he;cases b with
    |row c e o f z s=>
     simp only[cl] at he;subst he;obtain⟨L,a4⟩:=h.te g c e o f z s ax hm;have:=bg.ptr (μ:=μ) g 0 L a4;rw[h.own g L a4 ax] at this;exact this
    |_=>simp at he
 |func f=>
  have he:some (Value.func (.func f) #[] #[])=some v:=he;injection he with he;subst he
  exact .func _ _ _ _ _ rfl rfl rfl (fun i v v' q=>by simp at q) (fun i v v' q=>by simp at q)
theorem Hd(h:bX P B w0 μ H w)(aJ:jU μ T n tmps):∀{l:List Operand} {vs:List Value},fy T H l=some vs->bT μ vs (l.map (cU tmps)):=by
 intro l;induction l with
 |nil=>intro vs he;simp[fy] at he;subst he;exact bT.nil _
 |cons x l aP=>
  intro vs he;simp only[fy] at he;cases U:a1 T H x with
  |none=>rw[U] at he;simp at he
  |some v=>
   rw[U] at he;cases ap:fy T H l with
   |none=>rw[ap] at he;simp at he
   |some r=>rw[ap] at he;simp at he;subst he;exact bT.cons (tL h aJ U) (aP ap)
theorem am4:∀{l:List Operand} {vs:List Value},fy T H l=some vs->∀x∈l,∃v,a1 T H x=some v/\v∈vs:=by
 intro l;induction l with
 |nil=>intro vs he x U;simp at U
 |cons y l aP=>
  intro vs he x U;simp only[fy] at he;cases au:a1 T H y with
  |none=>rw[au] at he;simp at he
  |some v=>
   rw[au] at he;cases ap:fy T H l with
   |none=>rw[ap] at he;simp at he
   |some r=>
    rw[ap] at he;simp at he;subst he;rcases fU.1 U with rfl|U
    ·exact⟨v,au,by simp⟩
    ·obtain⟨u,a,b⟩:=aP ap x U;exact⟨u,a,by simp[b]⟩
theorem YB(h:bX P B w0 μ H w)(aJ:jU μ T n tmps):∀{l:List (Nat×Operand)} {ps:List (Nat×Value)},k5 T H l=some ps->vM μ ps (l.map fun(i,x)=>(i,cU tmps x)):=by
 intro l;induction l with
 |nil=>intro vs he;simp[k5] at he;subst he;exact⟨rfl,fun i p hG q=>by simp at q⟩
 |cons x l aP=>
  intro vs he;obtain⟨i,x⟩:=x;simp only[k5] at he;cases U:a1 T H x with
  |none=>rw[U] at he;simp at he
  |some v=>
   rw[U] at he;cases ap:k5 T H l with
   |none=>rw[ap] at he;simp at he
   |some r=>
    rw[ap] at he;simp at he;subst he;have:=aP ap;refine⟨by simp[this.1],fun j p hG q dj=>?_⟩;cases j with
    |zero=>simp at q dj;subst q;subst dj;exact⟨rfl,tL h aJ U⟩
    |succ j=>exact this.2 j p hG (by simpa using q) (by simpa using dj)
def nF(P:Program)(B:Nat->Prop)(w0:World)(call:eo)(aE:gU)(μ:bL)(H:an)(w:World)(s:Sem Next):cE->Prop
 |.val v H'=>(∃v' a5 bf,s.run P w=.ok (.value v') a5/\bX P B w0 bf H' a5/\Step μ bf H H'/\bg bf v v')\/
  (∃f args bP,s.run P w=(callFunc f bP.toArray).run P w/\bT μ args bP/\call f args H=some (.returned v,H'))\/
  (∃l L args bP,μ l=some L/\s.run P w=(Instr.yield L.r bP.toArray).run P w/\bT μ args bP/\aE l args H=some (.returned v,H'))
 |.skip H'=>∃a5,s.run P w=.ok .skip a5/\bX P B w0 μ H' a5/\Step μ μ H H'
 |.gk d=>∃kv cap dT args bP,d={target:=.fn kv cap,args:=args.toArray}/\s.run P w=.ok (.defer {target:=.fn kv dT,args:=bP.toArray}) w/\w9 kv=true/\bT μ cap.toList dT.toList/\bT μ args bP
 |.fO chain H'=>(∃v v',chain=[{v:=v,recovered:=false}]/\H'=H/\s.run P w=.halt (.panic v') w/\bg μ v v')\/
  (∃f args bP,s.run P w=(callFunc f bP.toArray).run P w/\bT μ args bP/\call f args H=some (.panicked chain,H'))\/
  (∃l L args bP,μ l=some L/\s.run P w=(Instr.yield L.r bP.toArray).run P w/\bT μ args bP/\aE l args H=some (.panicked chain,H'))
 |.y0=>s.run P w=.ok .recover w
variable {call:eo}{aE:gU}{o:Oper}{S:aV}
theorem pw{s:Sem Value}{x:Option Value}{r:cE}(h:bX P B w0 μ H w)(hs:∀v,x=some v->∃v',s.run P w=.ok v' w/\bg μ v v')(he:gH x H=some r):
 nF P B w0 call aE μ H w (do pure (.value (<-s))) r:=by
 cases x with
 |none=>cases he
 |some v=>
  have he:some (cE.val v H)=some r:=he;injection he with he;subst he
  obtain⟨v',a,b⟩:=hs v rfl;exact .inl ⟨v',w,μ,by simp[a],h,Step.refl _ _,b⟩
theorem xi{s:Sem Value}{x:Option (Value×an)}{r:cE}(hs:∀v H',x=some (v,H')->∃v' a5 bf,s.run P w=.ok v' a5/\bX P B w0 bf H' a5/\Step μ bf H H'/\bg bf v v')(he:mS x=some r):
 nF P B w0 call aE μ H w (do pure (.value (<-s))) r:=by
 cases x with
 |none=>cases he
 |some p=>
  obtain⟨v,H'⟩:=p;have he:some (cE.val v H')=some r:=he;injection he with he;subst he
  obtain⟨v',a5,bf,a,b,c,d⟩:=hs v H' rfl;exact .inl ⟨v',a5,bf,by simp[a],b,c,d⟩
theorem amW{s:Sem Unit}{x:Option an}{r:cE}(hs:∀H',x=some H'->∃a5,s.run P w=.ok () a5/\bX P B w0 μ H' a5/\Step μ μ H H')(he:Js x=some r):
 nF P B w0 call aE μ H w (do s;pure .skip) r:=by
 cases x with
 |none=>cases he
 |some H'=>
  have he:some (cE.skip H')=some r:=he;injection he with he;subst he
  obtain⟨a5,a,b,c⟩:=hs H' rfl;exact⟨a5,by simp[a],b,c⟩
theorem E5(h:bX P B w0 μ H w)(aJ:jU μ T n tmps)(Pw:∀cs b,o.op≠.select cs b){r:cE}(he:fl P T H o=some r):nF P B w0 call aE μ H w (execOp (cU tmps) o) r:=by
 unfold fl at he;cases ah:fy T H o.op.operands.toList with
 |none=>rw[ah] at he;simp at he
 |some vs=>
  rw[ah] at he;simp only at he;cases ao:vs.all plain with
  |false=>rw[ao] at he;simp at he
  |true=>
   rw[ao,b4] at he;have aii:execOp (px T H) o=execOp (cU tmps) o:=execOp_congr o Pw fun x U=>by
    obtain⟨v,a,b⟩:=am4 ah x (by simpa using U);unfold px;rw[a];exact(K2 (rF.1 ao v b) (tL h aJ a)).symm
   rw[aii] at he;cases gF:e0 P (execOp (cU tmps) o) with
   |none=>rw[gF] at he;simp at he
   |some ay=>
    rw[gF] at he;have gG:=UF gF w;cases ay with
    |value v=>
     simp only at he;cases ar:plain v with
     |false=>rw[ar] at he;simp at he
     |true=>
      rw[ar,b4] at he;simp only[cl] at he;subst he;exact .inl ⟨v,w,μ,gG,h,Step.refl _ _,py ar⟩
    |skip=>
     simp only[cl] at he;subst he;exact⟨w,gG,h,Step.refl _ _⟩
    |_=>simp at he
end
end
end Go.Cre
namespace Go.Cre
noncomputable section
open Go.RowKit
section
variable {P:Program}{B:Nat->Prop}{w0 w:World}{μ:bL}{H H':an}{n:Nat}{tmps:Array Value}
variable {call:eo}{aE:gU}{o:Oper}{S:aV}
theorem tb{α:Type}(n:Int)(k:Int->α):qT n k=k n:=by
 cases n with
 |ofNat m=>cases m<;>rfl
 |negSucc m=>cases m<;>rfl
theorem DR(k:IntKind)(n:Int):ze k n=k.wrap n:=by
 unfold ze;cases n with
 |ofNat m=>
  simp only
  cases ai:Nat.blt m (tF k) with
  |false=>rfl
  |true=>
   have ai:m<tF k:=hv ai;simp only[b4];cases k<;>simp only[tF] at ai<;>simp[IntKind.wrap,IntKind.bits,IntKind.signed]<;>omega
 |negSucc m=>
  simp only
  cases ai:(k.signed&&Nat.blt m (tF k)) with
  |false=>rfl
  |true=>
   simp only[gg] at ai;have hs:=ai.1;have ai:m<tF k:=hv ai.2;simp only[b4];cases k with
   |i64=>simp only[tF] at ai;rw[IntKind.wrap_i64,Int.negSucc_eq];omega
   |i32=>simp only[tF] at ai;rw[IntKind.wrap_i32,Int.negSucc_eq];omega
   |i8=>simp[tF] at ai
   |i16=>simp[tF] at ai
   |_=>cases hs
theorem C5(a b:Int):qd a b=decide (a<b):=by
 cases a with
 |ofNat a=>cases b with
  |ofNat b=>
   simp only[qd];have:Nat.blt a b=decide (a<b):=by
    by_cases h:a<b
    ·rw[g7 h];exact lH h
    ·rw[gL h];cases q:Nat.blt a b
     ·rfl
     ·exact absurd (hv q) h
   rw[this];simp
  |negSucc b=>simp[qd];omega
 |negSucc a=>cases b with
  |ofNat b=>simp[qd];omega
  |negSucc b=>
   simp only[qd];by_cases h:b<a
   ·have:Nat.blt b a=true:=lH h;rw[this,eq_comm,I3];omega
   ·have:Nat.blt b a=false:=by
     cases q:Nat.blt b a
     ·rfl
     ·exact absurd (hv q) h
    rw[this,eq_comm,decide_eq_false_iff_not];omega
theorem C4(a b:Int):qc a b=(a==b):=by
 rw[sF,beq_iff_eq];cases a with
 |ofNat a=>cases b with
  |ofNat b=>simp only[qc];constructor
            ·intro h;rw[eb h]
            ·intro h;injection h with h;rw[h];exact hd b
  |negSucc b=>simp[qc]
 |negSucc a=>cases b with
  |ofNat b=>simp[qc]
  |negSucc b=>simp only[qc];constructor
              ·intro h;rw[eb h]
              ·intro h;injection h with h;rw[h];exact hd b
theorem W0{a b:IntKind}(h:lT a b=true):a=b:=by cases a<;>cases b<;>first|rfl|cases h
theorem y1(H:an)(b:Bool):xp H b=some (.val (.bool b) H):=by cases b<;>rfl
theorem akm(h:bX P B w0 μ H w){k:IntKind}{a b:Int}{y8:Option cE}{op:BinOp}{t:TypeId}{x y:Operand}{r:cE}(U:cU tmps x=.int k a)(au:cU tmps y=.int k b)(ah:∃qy,o.op=.binOp op t x y qy)
 (CQ:y8=some r->nF P B w0 call aE μ H w (execOp (cU tmps) o) r)(he:iY H k a b y8 op=some r):nF P B w0 call aE μ H w (execOp (cU tmps) o) r:=by
 obtain⟨qy,ah⟩:=ah;have ax:(eqGuard op t x y (.int k a) (.int k b)).run P w=.ok () w:=by cases op<;>simp[eqGuard]
 have fin:∀v,(binOp op t (.int k a) (.int k b)).run P w=.ok v w->isAtom v=true->some (cE.val v H)=some r->nF P B w0 call aE μ H w (execOp (cU tmps) o) r:=by
  intro v ar aF aq;injection aq with aq;subst aq
  refine .inl ⟨v,w,μ,?_,h,Step.refl _ _,.atom _ aF⟩;simp[execOp,ah,U,au,ax,ar]
 cases op with
 |add=>simp only[iY,tb,DR,pD] at he;exact fin _ (by simp[binOp,Op.intArith]) rfl he
 |sub=>simp only[iY,tb,DR,pD] at he;exact fin _ (by simp[binOp,Op.intArith]) rfl he
 |mul=>simp only[iY,tb,DR,pD] at he;exact fin _ (by simp[binOp,Op.intArith]) rfl he
 |eql=>simp only[iY,y1,C4] at he;exact fin _ (by simp[binOp,Op.intCmp]) rfl he
 |neq=>simp only[iY,y1,C4] at he;exact fin _ (by simp[binOp,Op.intCmp,bne]) rfl he
 |lss=>simp only[iY,y1,C5] at he;exact fin _ (by simp[binOp,Op.intCmp]) rfl he
 |leq=>simp only[iY,y1,C5] at he;exact fin _ (by simp[binOp,Op.intCmp];rw[<-decide_not];exact lJ.2 (by omega)) rfl he
 |gtr=>simp only[iY,y1,C5] at he;exact fin _ (by simp[binOp,Op.intCmp]) rfl he
 |geq=>simp only[iY,y1,C5] at he;exact fin _ (by simp[binOp,Op.intCmp];rw[<-decide_not];exact lJ.2 (by omega)) rfl he
 |_=>exact CQ he
end
end
end Go.Cre
namespace Go.Cre
noncomputable section
open Go.RowKit
section
variable {P:Program}{B:Nat->Prop}{w0 w:World}{μ:bL}{H H':an}{n:Nat}{tmps:Array Value}
variable {call:eo}{aE:gU}{o:Oper}{S:aV}
theorem bg.Cm{fn:Fn}{a b:Array Value}{v:Value}(h:bg μ (.func fn a b) v):
 (∃bO b',v=.func fn bO b'/\w9 fn=true/\bT μ a.toList bO.toList/\bT μ b.toList b'.toList)\/(∃l L,fn=.yield l/\μ l=some L/\a=#[]/\b=#[]/\v=.func (.yield L.r) #[] #[]):=by
 cases h with
 |atom _ q=>simp[isAtom] at q
 |func fn a b bO b' au aF ai JY yv=>
  exact .inl ⟨bO,b',rfl,au,⟨by simpa using aF,fun i v v' x y=>JY i v v' (by simpa using x) (by simpa using y)⟩,⟨by simpa using ai,fun i v v' x y=>yv i v v' (by simpa using x) (by simpa using y)⟩⟩
 |yield l L a4=>exact .inr ⟨l,L,rfl,a4,rfl,rfl,rfl⟩
theorem I6{recv recv':Value}{name:String}{rest xn:List Value}{f:FuncId}{bV:List Value}(aq:bg μ recv recv')(ap:bT μ rest xn)(he:yb P H recv name rest=some (f,bV)):
 ∃iu,(callMethod recv' name xn.toArray).run P w=(callFunc f iu.toArray).run P w/\bT μ bV iu:=by
 unfold yb at he;cases recv with
 |iface t v=>
  obtain⟨v',rfl,ar⟩:=aq.wX;simp only at he;cases ak:P.info? t with
  |none=>rw[ak] at he;simp at he
  |some i=>
   rw[ak] at he;simp only at he;cases hm:i.methods.find? (·.name==name) with
   |none=>rw[hm] at he;simp at he
   |some m=>
    rw[hm] at he;simp only at he;cases ao:m.path.isEmpty with
    |false=>rw[ao] at he;simp at he
    |true=>
     rw[ao] at he;simp only[oc,da] at he;have aje:m.path=#[]:=by simpa using ao
     cases aA:m.func with
     |none=>rw[aA] at he;simp at he
     |some q=>
      obtain⟨g,xl⟩:=q;rw[aA] at he;simp only at he;have key:∀h5,(∀GV,(receiverAt t (.val v') xl GV).run P w=.ok h5 w)->f=g->(callMethod (.iface t v') name xn.toArray).run P w=(callFunc f (h5::xn).toArray).run P w:=by
       intro h5 F4 aiy;subst aiy;have aiY:(method (P.types.size+Made.depth) t v' name).run P w=.ok (f,h5) w:=by
        have:P.types.size+Made.depth=(P.types.size+99)+1:=rfl;rw[this];generalize P.types.size+99=k;simp[method,typeInfo,ak,hm,aje,follow,aA,F4]
       simp[callMethod,aiY]
      cases hu:P.underlying t with
      |none=>rw[hu] at he;simp at he
      |some d=>
       rw[hu] at he;cases d with
       |pointer elem=>
        cases xl with
        |true=>
         simp only[cl,dm] at he;obtain⟨rfl,rfl⟩:=he;exact⟨v'::xn,key v' (fun GV=>by simp[receiverAt,eE hu,Place.get]) rfl,bT.cons ar ap⟩
        |false=>simp at he
       |_=>
        cases xl with
        |true=>simp at he
        |false=>
         simp only[cl,dm] at he;obtain⟨rfl,rfl⟩:=he;exact⟨v'::xn,key v' (fun GV=>by simp[receiverAt,eE hu,Place.get]) rfl,bT.cons ar ap⟩
 |_=>simp at he
theorem Nz{fn:Fn}{args bP cap dT:List Value}{f:FuncId}{bV:List Value}(aF:bT μ args bP)(aD:bT μ cap dT)(he:jG P H fn args cap=some (f,bV)):
 ∃iu,(invoke (.fn fn dT.toArray) bP.toArray).run P w=(callFunc f iu.toArray).run P w/\bT μ bV iu:=by
 unfold jG at he;cases fn with
 |func g=>
  simp only[cl,dm] at he;obtain⟨rfl,rfl⟩:=he;refine⟨bP++dT,?_,aF.append aD⟩;simp[invoke]
 |method name=>
  cases args with
  |nil=>simp at he
  |cons r rest=>
   obtain⟨ch,xn,rfl,ab,ad⟩:=aF.iZ;obtain⟨iu,a,b⟩:=I6 (w:=w) ab ad he;refine⟨iu,?_,b⟩;rw[<-a];simp[invoke]
 |methodOf t name=>
  cases args with
  |nil=>simp at he
  |cons r rest=>
   obtain⟨ch,xn,rfl,ab,ad⟩:=aF.iZ;simp only at he;cases hu:P.underlying t with
   |none=>rw[hu] at he;simp at he
   |some d=>
    rw[hu] at he;by_cases al:∃Kt,d=.interface Kt
    ·obtain⟨Kt,rfl⟩:=al;obtain⟨iu,a,b⟩:=I6 (w:=w) ab ad he;refine⟨iu,?_,b⟩;rw[<-a];simp[invoke,eE hu]
    ·have p1:yb P H (.iface t r) name rest=some (f,bV):=by
      cases d<;>first|exact he|exact absurd ⟨_,rfl⟩ al
     obtain⟨iu,a,b⟩:=I6 (w:=w) (.iface t r ch ab) ad p1;refine⟨iu,?_,b⟩;rw[<-a];cases d<;>first|exact absurd ⟨_,rfl⟩ al|simp[invoke,eE hu]
 |_=>simp at he
theorem Uz(h:bX P B w0 μ H w)(aJ:jU μ S.T n tmps){c:Call}{r:cE}(aD:o.op=.call c)(yt:∀b,c.callee≠.builtin b)(he:lK P call aE S.T H c=some r):nF P B w0 call aE μ H w (execOp (cU tmps) o) r:=by
 unfold lK at he;have nf:∀args,fy S.T H c.args.toList=some args->bT μ args (c.args.map (cU tmps)).toList:=fun args q=>by
  have:=Hd h aJ q;simpa using this
 have fin:∀f bV iu,(execOp (cU tmps) o).run P w=(callFunc f iu.toArray).run P w->bT μ bV iu->m5 (call f bV H)=some r->nF P B w0 call aE μ H w (execOp (cU tmps) o) r:=by
  intro f bV iu ab ad aL;cases gR:call f bV H with
  |none=>rw[gR] at aL;simp[m5] at aL
  |some p=>
   obtain⟨e,H1⟩:=p;rw[gR] at aL;cases e with
   |returned v=>simp[m5] at aL;subst aL;exact .inr (.inl ⟨f,bV,iu,ab,ad,gR⟩)
   |panicked bk=>simp[m5] at aL;subst aL;exact .inr (.inl ⟨f,bV,iu,ab,ad,gR⟩)
   |outgrown=>simp[m5] at aL
 cases aF:fy S.T H c.args.toList with
 |none=>rw[aF] at he;simp at he
 |some args=>
  rw[aF] at he;simp only at he;have ap:=nf args aF;cases mc:c.callee with
  |builtin b=>exact absurd mc (yt b)
  |invoke recv name=>
   rw[mc] at he;simp only at he;cases aq:a1 S.T H recv with
   |none=>rw[aq] at he;simp at he
   |some Rq=>
    rw[aq] at he;simp only at he;cases hm:yb P H Rq name args with
    |none=>rw[hm] at he;simp at he
    |some p=>
     obtain⟨f,bV⟩:=p;rw[hm] at he;obtain⟨iu,a7,bc⟩:=I6 (w:=w) (tL h aJ aq) ap hm;refine fin f bV iu ?_ bc he;rw[<-a7];have jX:(#[cU tmps recv]++Array.map (cU tmps) c.args)[0]?=some (cU tmps recv):=by rw[aa7 (by simp)];rfl
     have aw:(Array.map (cU tmps) c.args).extract 0 c.args.size=(List.map (cU tmps) c.args.toList).toArray:=by apply qz;simp;exact cM (by simp)
     simp[execOp,aD,resolve,mc,invoke,jX,aw]
  |value NM=>
   rw[mc] at he;simp only at he;cases aA:a1 S.T H NM with
   |none=>rw[aA] at he;simp at he
   |some kv=>
    rw[aA] at he;have kg:=tL h aJ aA;cases kv with
    |func fn first captured=>
     rcases kg.Cm with⟨bO,b',ar,tu,ab,ad⟩|⟨l,L,rfl,a4,rfl,rfl,ar⟩
     ·have p1:(match jG P H fn (first.toList++args) captured.toList with|some (f,bV)=>m5 (call f bV H)|none=>none)=some r:=by
       cases fn<;>first|exact he|(simp[w9] at tu)
      cases hm:jG P H fn (first.toList++args) captured.toList with
      |none=>rw[hm] at p1;simp at p1
      |some p=>
       obtain⟨f,bV⟩:=p;rw[hm] at p1;obtain⟨iu,a7,bc⟩:=Nz (w:=w) (ab.append ap) ad hm;refine fin f bV iu ?_ bc p1;rw[<-a7];have aw:(bO.toList++(c.args.map (cU tmps)).toList).toArray=bO++c.args.map (cU tmps):=by apply qz;simp
       have aR:b'.toList.toArray=b':=by simp
       rw[aw,aR];simp[execOp,aD,resolve,mc,Deferred.ofValue,ar]
     ·simp only[Array.isEmpty_empty,vy,b4] at he;cases au:aE l args H with
      |none=>rw[au] at he;simp[DS] at he
      |some p=>
       obtain⟨e,H1⟩:=p;rw[au] at he;cases e with
       |returned v=>
        simp[DS] at he;subst he;refine .inr (.inr ⟨l,L,args,(c.args.map (cU tmps)).toList,a4,?_,ap,au⟩);have aw:(List.map (cU tmps) c.args.toList).toArray=c.args.map (cU tmps):=by apply qz;simp
        simp[execOp,aD,resolve,mc,Deferred.ofValue,ar,invoke,aw]
       |panicked bk=>
        simp[DS] at he;subst he;refine .inr (.inr ⟨l,L,args,(c.args.map (cU tmps)).toList,a4,?_,ap,au⟩);have aw:(List.map (cU tmps) c.args.toList).toArray=c.args.map (cU tmps):=by apply qz;simp
        simp[execOp,aD,resolve,mc,Deferred.ofValue,ar,invoke,aw]
       |outgrown=>simp[DS] at he
    |_=>simp at he
end
end
end Go.Cre
namespace Go.Cre
noncomputable section
open Go.RowKit
section
variable {P:Program}{B:Nat->Prop}{w0 w:World}{μ:bL}{H H':an}{n:Nat}{tmps:Array Value}
variable {call:eo}{aE:gU}{o:Oper}{S:aV}
theorem akt{α:Type}{l:List α}(h:isNil l=true):l=[]:=by
 cases l with
 |nil=>rfl
 |cons a l=>cases h
theorem aex{α:Type}(k:Nat)(l:List α):v5 (k+1) l=Option.rec (motive:=fun _=>Option (List α)) none (v5 k) (v5 k l):=rfl
theorem aew{α:Type}:∀{k:Nat} {l r:List α},v5 k l=some r->l.length=2 ^ k+r.length:=by
 intro k;induction k with
 |zero=>
  intro l r h;cases l with
  |nil=>cases h
  |cons v l=>
   have h:some l=some r:=h;injection h with h;subst h;simp;omega
 |succ k aP=>
  intro l r h;rw[aex] at h;cases ab:v5 k l with
  |none=>rw[ab] at h;cases h
  |some m=>
   rw[ab] at h;have h:v5 k m=some r:=h;have aw:=aP ab;have aR:=aP h;rw[ff];omega
theorem aeC{α:Type}(k n:Nat)(l:List α):zN (k+1) n l=Option.rec (motive:=fun _=>Option Nat) (zN k n l) (fun r=>zN k (Nat.add n (Nat.pow 2 k)) r) (v5 k l):=rfl
theorem Ud{α:Type}:∀{k n m:Nat} {l:List α},zN k n l=some m->m=n+l.length:=by
 intro k;induction k with
 |zero=>
  intro n m l h;have h:Bool.rec (motive:=fun _=>Option Nat) none (some n) (isNil l)=some m:=h;cases az:isNil l with
  |false=>rw[az] at h;cases h
  |true=>rw[az] at h;injection h with h;rw[akt az];simp[h]
 |succ k aP=>
  intro n m l h;rw[aeC] at h;cases ab:v5 k l with
  |none=>rw[ab] at h;exact aP h
  |some r=>
   rw[ab] at h;have h:zN k (n+2 ^ k) r=some m:=h;have aw:=aew ab;have aR:=aP h;omega
theorem Xk{α:Type}{l:List α}{n:Nat}(h:AA l=some n):n=l.length:=by
 unfold AA at h;cases ai:isNil (nP 256 l) with
 |true=>rw[ai,b4] at h;injection h with h;exact h.symm
 |false=>
  rw[ai,da] at h;split at h
  ·rename_i m hm;injection h with h;subst h
   have:=Ud hm;omega
  ·split at h
   ·rename_i m hm;injection h with h;subst h
    have:=Ud hm;omega
   ·injection h with h;exact h.symm
theorem Yu(h:bX P B w0 μ H w){T:aW Value}(aJ:jU μ T n tmps){x:Option Operand}{v:Option Value}(he:ho T H x=some v):Eg μ v (x.map (cU tmps)):=by
 cases x with
 |none=>simp[ho] at he;subst he;trivial
 |some x=>
  simp only[ho] at he;cases U:a1 T H x with
  |none=>rw[U] at he;simp at he
  |some u=>rw[U] at he;simp at he;subst he;exact tL h aJ U
theorem afF(h:bX P B w0 μ H w)(aJ:jU μ S.T n tmps){c:Call}{b:Builtin}{r:cE}(aD:o.op=.call c)(ai:c.callee=.builtin b)(he:pY P S H o b c=some r):nF P B w0 call aE μ H w (execOp (cU tmps) o) r:=by
 have Pw:∀cs b,o.op≠.select cs b:=fun cs b q=>by rw[aD] at q;cases q
 have r5:fl P S.T H o=some r->nF P B w0 call aE μ H w (execOp (cU tmps) o) r:=E5 h aJ Pw;obtain⟨cs,hex⟩:∃cs,execOp (cU tmps) o=builtin b c.argTypes o.type cs (c.args.map (cU tmps)):=⟨_,by simp[execOp,aD,resolve,ai,invoke];rfl⟩;unfold pY at he;cases aF:fy S.T H c.args.toList with
 |none=>rw[aF] at he;simp at he
 |some args=>
  rw[aF] at he;have ap:bT μ args (c.args.map (cU tmps)).toList:=by have:=Hd h aJ aF;simpa using this
  simp only at he;have uR:∀l,(c.args.map (cU tmps)).toList=l->c.args.map (cU tmps)=l.toArray:=fun l q=>by rw[<-q]
  have yx:∀l,c.argTypes.toList=l->c.argTypes=l.toArray:=fun l q=>by rw[<-q]
  split at he
  ·--len of a slice
   rename_i a m v3 t pg;split at he
   ·rename_i e hu;injection he with he;subst he
    obtain⟨v',l',aw,ab,ad⟩:=ap.iZ;have:=ad.kz;subst this;refine .inl ⟨.int .i64 m,w,μ,?_,h,Step.refl _ _,.atom _ rfl⟩;rw[hex,uR _ aw,yx _ pg];cases a with
    |none=>rw[ab.sx];simp[builtin,Builtin.len_,eE hu,goInt]
    |some a=>obtain⟨_,_,rfl⟩:=ab.y7;simp[builtin,Builtin.len_,eE hu,goInt]
   ·cases he
  ·--len of a map
   rename_i bB t pg;split at he
   ·rename_i k e hu;split at he
    ·rename_i es clock hm;injection he with he;subst he
     obtain⟨v',l',aw,ab,ad⟩:=ap.iZ;have:=ad.kz;subst this;obtain⟨L,a4,rfl⟩:=ab.GG;obtain⟨m7,IZ,bY,bZ⟩:=h.map a4 hm;have wG:(getObj L.r).run P w=.ok (.map m7 IZ) w:=by simp[getObj,Sem.run,bY]
     have hlen:m7.size=es.length:=by have:=bZ.length;simp at this;omega
     refine .inl ⟨.int .i64 es.length,w,μ,?_,h,Step.refl _ _,.atom _ rfl⟩;rw[hex,uR _ aw,yx _ pg];simp[builtin,Builtin.len_,eE hu,goInt,wG,hlen]
    ·cases he
   ·cases he
  ·--len of a string
   rename_i s t pg;split at he
   ·rename_i hu;have he:some (cE.val (.int .i64 s.data.toList.length) H)=some r:=by
     cases hle:AA s.data.toList with
     |none=>rw[hle] at he;cases he
     |some n=>
      rw[hle] at he;simp only at he;rw[tb] at he;rw[<-Xk hle];exact he
    injection he with he;subst he
    obtain⟨v',l',aw,ab,ad⟩:=ap.iZ;have:=ad.kz;subst this;have gG:(Builtin.len_ #[t] o.type #[.string s]).run P w=.ok (goInt s.size) w:=by simp[Builtin.len_,eE hu]
    refine .inl ⟨goInt s.size,w,μ,?_,h,Step.refl _ _,.atom _ rfl⟩;rw[hex,uR _ aw,yx _ pg,ab.Hv];simp[builtin,gG]
   ·cases he
  ·--append
   rename_i s x ts iD pg;split at he
   ·cases he
   ·rename_i d al hu;obtain⟨v',l',aw,ab,ad⟩:=ap.iZ;obtain⟨HC,Ki,rfl,aL,a6⟩:=ad.iZ;have:=a6.kz;subst this;have:=xi (call:=call) (aE:=aE) (s:=Builtin.append_ #[ts,iD] o.type #[v',HC]) (fun v H' q=>afC h ab aL hu (fun k q=>al k q) q) he;rw[hex,uR _ aw,yx _ pg];exact this
   ·cases he
  ·--cap
   rename_i a m v3 t pg;split at he
   ·rename_i e hu;cases eg:Nat.beq v3 cG with
    |true=>rw[eg] at he;cases he
    |false=>
     rw[eg,da] at he;injection he with he;subst he
     obtain⟨v',l',aw,ab,ad⟩:=ap.iZ;have:=ad.kz;subst this;have dQ:v3≠cG:=fun q=>by rw[q,hd] at eg;cases eg
     obtain⟨bO,rfl⟩:=ab.apc dQ;refine .inl ⟨.int .i64 v3,w,μ,?_,h,Step.refl _ _,.atom _ rfl⟩;rw[hex,uR _ aw,yx _ pg];simp[builtin,Builtin.cap_,eE hu,goInt]
   ·cases he
  ·--sA auK data
   rename_i a m v3;cases eg:(Nat.beq v3 cG&&Nat.beq m 0) with
   |true=>rw[eg] at he;cases he
   |false=>
    rw[eg,da] at he;cases kT:Nat.beq v3 0 with
    |true=>rw[kT] at he;cases he
    |false=>
     rw[kT,da] at he;injection he with he;subst he
     obtain⟨v',l',aw,ab,ad⟩:=ap.iZ;have:=ad.kz;subst this;have kT:v3≠0:=fun q=>by rw[q] at kT;cases kT
     obtain⟨id,off,L,fI,dT,rfl,a4,rfl,ah,_,to⟩:=ab.vq (.inr (.inr (by omega)));have hm:v3=cG->m≠0:=fun q dj=>by subst q;subst dj;rw[hd] at eg;cases eg
     have lM:dT≠0/\fI=off:=by
      rcases to with⟨_,rfl,rfl⟩|⟨q,aH,rfl,_⟩|⟨q,aH,_⟩
      ·exact⟨kT,rfl⟩
      ·exact⟨by have:=hm q;omega,rfl⟩
      ·exact absurd aH (hm q)
     obtain⟨lM,rfl⟩:=lM;refine .inl ⟨.pointer (some ⟨L.r,fI,none⟩),w,μ,?_,h,Step.refl _ _,.ptr id fI L a4⟩;have gG:(Builtin.unsafeSliceData_ c.argTypes o.type #[.slice (some ⟨L.r,fI,none⟩) m dT]).run P w=.ok (.pointer (some ⟨L.r,fI,none⟩)) w:=by
      show((if dT≠0 then pure _ else _:Sem Value)).run P w=_;rw[a2 lM];rfl
     rw[hex,uR _ aw];simp[builtin,gG]
  ·--a string over bytes
   rename_i p m sq it pg;obtain⟨v',l',aw,ab,ad⟩:=ap.iZ;obtain⟨HC,Ki,rfl,aL,a6⟩:=ad.iZ;have:=a6.kz;subst this;have:=xi (call:=call) (aE:=aE) (s:=Builtin.unsafeString_ #[sq,it] o.type #[v',HC]) (fun v H' q=>by
    obtain⟨a7,bc,cu,c9,cI,ee⟩:=af7 h ab aL q;exact⟨a7,bc,μ,cu,c9,cI,ee⟩) he
   rw[hex,uR _ aw,yx _ pg];exact this
  ·--copy
   rename_i d s rv ts pg;obtain⟨v',l',aw,ab,ad⟩:=ap.iZ;obtain⟨HC,Ki,rfl,aL,a6⟩:=ad.iZ;have:=a6.kz;subst this;have:=xi (call:=call) (aE:=aE) (s:=Builtin.copy_ #[rv,ts] o.type #[v',HC]) (fun v H' q=>by
    obtain⟨a7,bc,cu,c9,cI,ee⟩:=afI h ab aL q;exact⟨a7,bc,μ,cu,c9,cI,ee⟩) he
   rw[hex,uR _ aw,yx _ pg];exact this
  ·--clear
   rename_i x t pg;obtain⟨v',l',aw,ab,ad⟩:=ap.iZ;have:=ad.kz;subst this;have:=xi (call:=call) (aE:=aE) (s:=Builtin.clear_ #[t] o.type #[v']) (fun v H' q=>by
    obtain⟨a7,bc,cu,c9,cI,ee⟩:=afG h ab q;exact⟨a7,bc,μ,cu,c9,cI,ee⟩) he
   rw[hex,uR _ aw,yx _ pg];exact this
  ·--panic
   rename_i t v;injection he with he;subst he
   obtain⟨v',l',aw,ab,ad⟩:=ap.iZ;have:=ad.kz;subst this;obtain⟨dv,rfl,U⟩:=ab.wX;refine .inl ⟨.iface t v,.iface t dv,rfl,rfl,?_,.iface t v dv U⟩;rw[hex,uR _ aw];simp[builtin,Instr.panic,goPanic,Sem.run]
  ·--recover
   have aw:=ap.kz;have gG:(execOp (cU tmps) o).run P w=.ok .recover w:=by rw[hex];simp[builtin]
   injection he with he;subst he
   exact gG
  ·exact r5 he
theorem afJ(h:bX P B w0 μ H w)(aJ:jU μ S.T n tmps){c:Call}{r:cE}(aD:o.op=.defer c)(he:E1 P S.T H c=some r):nF P B w0 call aE μ H w (execOp (cU tmps) o) r:=by
 unfold E1 at he;cases aF:fy S.T H c.args.toList with
 |none=>rw[aF] at he;simp at he
 |some args=>
  rw[aF] at he;simp only at he;have ap:bT μ args (c.args.map (cU tmps)).toList:=by have:=Hd h aJ aF;simpa using this
  cases mc:c.callee with
  |builtin b=>rw[mc] at he;simp at he
  |invoke recv name=>
   rw[mc] at he;simp only at he;cases aq:a1 S.T H recv with
   |none=>rw[aq] at he;simp at he
   |some Rq=>
    rw[aq] at he;simp only[cl] at he;subst he;refine⟨.method name,#[],#[],Rq::args,cU tmps recv::(c.args.map (cU tmps)).toList,rfl,?_,rfl,bT.nil _,bT.cons (tL h aJ aq) ap⟩;have aw:(cU tmps recv::(c.args.map (cU tmps)).toList).toArray=#[cU tmps recv]++c.args.map (cU tmps):=by apply qz;simp
    rw[aw];simp[execOp,aD,resolve,mc]
  |value NM=>
   rw[mc] at he;simp only at he;cases aA:a1 S.T H NM with
   |none=>rw[aA] at he;simp at he
   |some kv=>
    rw[aA] at he;have kg:=tL h aJ aA;cases kv with
    |func fn first captured=>
     simp only at he;cases tu:w9 fn with
     |false=>rw[tu] at he;simp at he
     |true=>
     rw[tu] at he;simp only[b4,cl] at he;subst he;rcases kg.Cm with⟨bO,b',ar,_,ab,ad⟩|⟨l,L,rfl,a4,rfl,rfl,ar⟩
     ·refine⟨fn,captured,b',first.toList++args,bO.toList++(c.args.map (cU tmps)).toList,rfl,?_,tu,ad,ab.append ap⟩;have aw:(bO.toList++(c.args.map (cU tmps)).toList).toArray=bO++c.args.map (cU tmps):=by apply qz;simp
      rw[aw];simp[execOp,aD,resolve,mc,Deferred.ofValue,ar]
     ·simp[w9] at tu
    |_=>simp at he
end
end
end Go.Cre

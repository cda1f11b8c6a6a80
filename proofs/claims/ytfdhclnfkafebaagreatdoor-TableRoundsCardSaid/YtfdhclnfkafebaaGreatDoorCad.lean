/- A part of the proof of TableRounds. -/
import Derived.Test.YtfdhclnfkafebaaGreatDoorCac
import Derived.Laws.MakeOwn
set_option linter.unusedVariables false
set_option linter.unusedSimpArgs false
namespace Go.Cre
noncomputable section
open Go.RowKit
section
variable {P:Program}{B:Nat->Prop}{w0 w:World}{μ:b5}{H H':aw}
theorem bu.oZ{a:Addr}{v:Value}(h:bu μ (.pointer (some a)) v):∃id off L,a=⟨id,off,none⟩/\μ id=some L/\v=.pointer (some ⟨L.r,off,none⟩):=by
 cases h with
 |atom _ h=>simp[isAtom] at h
 |ptr id off L bB=>exact⟨id,off,L,rfl,bB,rfl⟩
theorem bu.zo{a:Addr}{len cap:Nat}{v:Value}(h:bu μ (.slice (some a) len cap) v):∃bV ej,v=.slice (some bV) len ej:=by
 cases h with
 |atom _ h=>simp[isAtom] at h
 |nJ id off len cap L bB aJ=>exact⟨_,_,rfl⟩
 |pQ id off len cap L bB aJ gC=>exact⟨_,_,rfl⟩
 |vM id off fV L bB=>exact⟨_,_,rfl⟩
 |xQ a=>exact⟨_,_,rfl⟩
theorem bu.an8{a:Addr}{len cap:Nat}{v:Value}(h:bu μ (.slice (some a) len cap) v)(aJ:cap≠cQ):∃bV,v=.slice (some bV) len cap:=by
 cases h with
 |atom _ h=>simp[isAtom] at h
 |nJ id off len cap L bB aJ=>exact⟨_,rfl⟩
 |pQ id off len cap L bB aJ gC=>exact absurd rfl aJ
 |vM id off fV L bB=>exact absurd rfl aJ
 |xQ a=>exact⟨_,rfl⟩
theorem bu.vN{a:Addr}{len cap:Nat}{v:Value}(h:bu μ (.slice (some a) len cap) v)(ag:a.spot=none\/0<len\/0<cap):
 ∃id off L fV ej,a=⟨id,off,none⟩/\μ id=some L/\v=.slice (some ⟨L.r,fV,none⟩) len ej/\(0<len->fV=off)/\len<=max len ej/\
  ((cap<cQ/\ej=cap/\fV=off)\/(cap=cQ/\len<=ej/\fV=off/\off+ej*L.sz<=L.N)\/(cap=cQ/\len=0/\ej=0)):=by
 cases h with
 |atom _ h=>simp[isAtom] at h
 |nJ id off len cap L bB aJ=>exact⟨id,off,L,off,cap,rfl,bB,rfl,fun _=>rfl,by omega,.inl ⟨aJ,rfl,rfl⟩⟩
 |pQ id off len cap L bB aJ gC=>exact⟨id,off,L,off,cap,rfl,bB,rfl,fun _=>rfl,by omega,.inr (.inl ⟨rfl,aJ,rfl,gC⟩)⟩
 |vM id off fV L bB=>exact⟨id,off,L,fV,0,rfl,bB,rfl,fun h=>absurd h (by omega),by omega,.inr (.inr ⟨rfl,rfl,rfl⟩)⟩
 |xQ a=>rcases ag with q|q|q<;>cases q
theorem bu.sW{len cap:Nat}{v:Value}(h:bu μ (.slice none len cap) v):v=.slice none len cap:=by cases h;rfl
theorem bu.DX{v:Value}(h:bu μ (.pointer none) v):v=.pointer none:=by cases h;rfl
theorem bu.G5{r:Nat}{v:Value}(h:bu μ (.map (some r)) v):∃L,μ r=some L/\v=.map (some L.r):=by
 cases h with
 |atom _ h=>simp[isAtom] at h
 |map id L bB=>exact⟨L,bB,rfl⟩
theorem bu.G6{v:Value}(h:bu μ (.map none) v):v=.map none:=by cases h;rfl
theorem bu.xg{t:TypeId}{x v:Value}(h:bu μ (.iface t x) v):∃dP,v=.iface t dP/\bu μ x dP:=by
 cases h with
 |atom _ h=>simp[isAtom] at h
 |iface t v v' h=>exact⟨v',rfl,h⟩
theorem bu.Hh{v:Value}(h:bu μ .nilIface v):v=.nilIface:=by cases h;rfl
theorem bu.K1{v:Value}(h:bu μ .nilFunc v):v=.nilFunc:=by cases h;rfl
theorem kP{t:TypeId}{n:Nat}(h:eV P t=some n)(w:World):(sizeOf t).run P w=.ok n w:=by
 unfold eV at h;cases ar:P.info? t with
 |none=>rw[ar] at h;cases h
 |some i=>rw[ar] at h;injection h with h;subst h;simp[sizeOf,typeInfo,ar]
theorem RJ{t:TypeId}{n:Nat}(h:eV P t=some n):P.cellsOf t=n:=by
 unfold eV at h;cases ar:P.info? t with
 |none=>rw[ar] at h;cases h
 |some i=>rw[ar] at h;injection h with h;subst h;simp[Program.cellsOf,ar]
theorem vT{t:TypeId}{z:Value}(h:gR P t=some z)(w:World):(zeroValue t).run P w=.ok z w:=by
 unfold gR at h;cases ar:P.info? t with
 |none=>rw[ar] at h;cases h
 |some i=>rw[ar] at h;simp only at h;simp[zeroValue,typeInfo,ar,h]
theorem eY{t:TypeId}{d:TypeDesc}(h:P.underlying t=some d)(w:World):(underlying t).run P w=.ok d w:=by
 simp[underlying,h]
theorem TG{t:TypeId}{n:Nat}(h:r6 P t=some (some n)):(∀w,(isAgg t).run P w=.ok true w)/\eV P t=some n:=by
 unfold r6 at h;cases ar:P.info? t with
 |none=>rw[ar] at h;cases h
 |some i=>
  rw[ar] at h;simp only at h;refine⟨fun w=>?_,?_⟩
  ·cases hu:P.underlying t with
   |none=>rw[hu] at h;cases h
   |some d=>rw[hu] at h;cases d<;>first|(simp[isAgg,underlying,hu];done)|(simp at h)
  ·cases hu:P.underlying t with
   |none=>rw[hu] at h;cases h
   |some d=>rw[hu] at h;cases d<;>first|(simp at h;simp[eV,ar,h];done)|(simp at h)
theorem TF{t:TypeId}(h:r6 P t=some none):∀w,(isAgg t).run P w=.ok false w:=by
 unfold r6 at h;cases ar:P.info? t with
 |none=>rw[ar] at h;cases h
 |some i=>
  rw[ar] at h;simp only at h;intro w;cases hu:P.underlying t with
  |none=>rw[hu] at h;cases h
  |some d=>rw[hu] at h;cases d<;>first|(simp[isAgg,underlying,hu];done)|(simp at h)
theorem US{t:TypeId}{cs cN:List Value}{off:Nat}{v:Value}(av:ca μ cs cN)(he:m3 P t cs off=some v)(w:World):
 ∃v',(part t cN.toArray off).run P w=.ok v' w/\bu μ v v':=by
 unfold m3 at he;cases aI:r6 P t with
 |none=>rw[aI] at he;cases he
 |some q=>
  rw[aI] at he;cases q with
  |none=>
   simp only[lH] at he;obtain⟨v',ad,af⟩:=av.get he;refine⟨v',?_,af⟩;simp[part,TF aI,ad]
  |some n=>
   simp only[wy] at he;obtain⟨ad,af⟩:=TG aI;cases aS:takeN n (cs.drop off) with
   |none=>rw[aS] at he;cases he
   |some l=>
    rw[aS] at he;injection he with he;subst he
    obtain⟨aC,aW,cw⟩:=D5 aS;refine⟨.agg ((cN.drop off).take n).toArray,?_,?_⟩
    ·simp[part,ad,kP af]
    ·rw[aC];exact bu.I9 ((av.drop off).take n)
theorem cd.row(h:cd P B w0 μ H w){id:Nat}{L:Loc}{cells:List Value}{elem:TypeId}{opn:Bool}{bP ey:Nat}{sh:Bool}(bB:μ id=some L)(hm:H.mem.get id=some (.row cells elem opn bP ey sh)):
 ∃c f,w.heap[L.r]?=some (.cells c elem f)/\c.size=L.N/\P.cellsOf elem=L.sz/\cells.length<=L.N/\(opn=false->cells.length=L.N)/\ca μ cells (c.toList.take cells.length)/\NW L.N ey sh f:=by
 obtain⟨b,o,aX,aU,b0⟩:=h.gf id L bB;rw[hm] at aX;injection aX with aX;subst aX
 cases o with
 |cells c e f=>
  obtain⟨rfl,ee,fB,iD,ue,Lv,HN⟩:=b0;refine⟨c,f,aU,ee,fB,iD,ue,⟨by simp;omega,fun i v v' a b=>?_⟩,HN⟩;rw[ji] at b;split at b
  ·exact Lv i v v' a (by simpa using b)
  ·cases b
 |_=>exact b0.elim
theorem cd.map(h:cd P B w0 μ H w){id:Nat}{L:Loc}{es:List MapEntry}{clock:Nat}(bB:μ id=some L)(hm:H.mem.get id=some (.map es clock)):
 ∃nq Jp,w.heap[L.r]?=some (.map nq Jp)/\zE μ es nq.toList:=by
 obtain⟨b,o,aX,aU,b0⟩:=h.gf id L bB;rw[hm] at aX;injection aX with aX;subst aX
 cases o with
 |map nq c'=>exact⟨nq,c',aU,b0⟩
 |_=>exact b0.elim
theorem cd.cells(h:cd P B w0 μ H w){id:Nat}{L:Loc}{cells:List Value}{elem:TypeId}{opn:Bool}{bP ey:Nat}{sh:Bool}(bB:μ id=some L)(hm:H.mem.get id=some (.row cells elem opn bP ey sh))
 {off n:Nat}{l:List Value}(aS:takeN n (nY off cells)=some l):∃l',ca μ l l'/\l'.length=n/\(∀j v,l'[j]?=some v->w.cell? ⟨L.r,off+j,none⟩=some v):=by
 obtain⟨c,f,ad,af,aV,bq,fL,hv,nt⟩:=h.row bB hm;obtain⟨aC,aW,cw⟩:=D5 aS;rw[wy] at aC cw;refine⟨((c.toList.take cells.length).drop off).take n,?_,?_,?_⟩
 ·rw[aC];exact(hv.drop off).take n
 ·have:=((hv.drop off).take n).1;rw[<-aC,aW] at this;exact this.symm
 ·intro j v bf;rw[ji] at bf;split at bf
  ·rw[p5,ji] at bf;split at bf
   ·rw[cell_of_row ad];simpa using bf
   ·cases bf
  ·cases bf
theorem UP(h:cd P B w0 μ H w){t:TypeId}{id off:Nat}{L:Loc}{v:Value}(bB:μ id=some L)(he:Cw P H t ⟨id,off,none⟩=some v):
 ∃v',(loadVar t ⟨L.r,off,none⟩).run P w=.ok v' w/\bu μ v v':=by
 simp only[Cw] at he;cases hm:H.mem.get id with
 |none=>rw[hm] at he;cases he
 |some b=>
  rw[hm] at he;cases b with
  |row cells elem opn bP ey sh=>
   simp only at he;unfold m3 at he;cases aI:r6 P t with
   |none=>rw[aI] at he;cases he
   |some q=>
    rw[aI] at he;cases q with
    |none=>
     simp only[lH] at he;obtain⟨c,f,ad,af,aV,bq,fL,hv,nt⟩:=h.row bB hm;obtain⟨v',ck,ch⟩:=hv.get he;refine⟨v',?_,ch⟩;rw[ji] at ck;split at ck
     ·have:w.cell? ⟨L.r,off,none⟩=some v':=by rw[cell_of_row ad];simpa using ck
      simp[loadVar,TF aI,load,Sem.run,this]
     ·cases ck
    |some n=>
     obtain⟨ad,af⟩:=TG aI;simp only at he;cases aS:takeN n (nY off cells) with
     |none=>rw[aS] at he;cases he
     |some l=>
      rw[aS] at he;injection he with he;subst he
      obtain⟨l',ck,ch,c6⟩:=h.cells bB hm aS;refine⟨.agg l'.toArray,?_,bu.I9 ck⟩;have:=run_loadCells_list (P:=P) w ⟨L.r,off,none⟩ l' (fun j v bf=>by rw[Addr.qZ];exact c6 j v bf);rw[ch] at this;simp[loadVar,ad,kP af,this]
  |_=>cases he
theorem afA(h:cd P B w0 μ H w){t:TypeId}{p h8 v:Value}(ap:bu μ p h8)(he:Ad P H t p=some v):
 ∃v',(Instr.loadAt t h8).run P w=.ok v' w/\bu μ v v':=by
 unfold Ad at he;cases p with
 |pointer a=>
  cases a with
  |none=>simp at he
  |some a=>
   obtain⟨id,off,L,rfl,bB,rfl⟩:=ap.oZ;simp only at he;obtain⟨v',ad,af⟩:=UP h bB he;exact⟨v',by simp[Instr.loadAt,Instr.sureAddr,ad],af⟩
 |_=>simp at he
theorem afI(h:cd P B w0 μ H w){t:TypeId}{p h8 v v':Value}(ap:bu μ p h8)(az:bu μ v v')(he:Ae P H t p v=some H'):
 ∃bn,(Instr.storeAt t h8 v').run P w=.ok () bn/\cd P B w0 μ H' bn/\Step μ μ H H':=by
 unfold Ae at he;cases p with
 |pointer a=>
  cases a with
  |none=>simp at he
  |some a=>
   obtain⟨id,off,L,rfl,bB,rfl⟩:=ap.oZ;simp only at he;cases ag:eV P t with
   |none=>rw[ag] at he;cases he
   |some n=>
    rw[ag] at he;simp only at he;cases ak:Nat.beq v.cells.toList.length n with
    |false=>rw[ak] at he;cases he
    |true=>
     rw[ak,cv] at he;obtain⟨bn,ad,af,aV⟩:=JB h bB az.cells he;have aE:=eC ak;have aD:=az.cells.1;refine⟨bn,?_,af,aV⟩;have ea:v'.cells.size=n:=by simp at aD aE;omega
     simp[Instr.storeAt,Instr.sureAddr,storeVar,kP ag,ea,ad]
 |_=>simp at he
theorem acd{l l':List Value}(h:ca μ l l')(aI:l.all ff=true):∀v∈l',ff v=true:=fun v az=>by
 obtain⟨i,ar⟩:=zJ.1 az;have C0:i<l.length:=by have:=(gS.1 ar).1;have:=h.1;omega
 rw[(h.2 i l[i] v (eE C0) ar).ff];exact uE.1 aI _ (List.getElem_mem C0)
theorem QZ(h:cd P B w0 μ H w){elem:TypeId}{cells cells':List Value}{id:Nat}(aJ:ca μ cells cells')(aE:tY H elem cells=some (id,H')):
 ∃bw L,cd P B w0 bw H' (w.alloc (.cells cells'.toArray elem))/\Step μ bw H H'/\bw id=some L/\L.r=w.heap.size/\L.N=cells.length/\L.sz=P.cellsOf elem:=by
 have ak:j5 P (μ.put H.aG ⟨w.heap.size,cells.length,P.cellsOf elem⟩) ⟨w.heap.size,cells.length,P.cellsOf elem⟩ (.row cells elem false 0 0 false) (.cells cells'.toArray elem):=by
  refine⟨rfl,by simp[aJ.1],rfl,bX _,fun _=>rfl,fun i v v' a b=>?_,?_⟩
  ·exact(aJ.2 i v v' a (by simpa using b)).mono (h.uZ _)
  ·exact⟨fun off _ ad af=>by simp at af,fun _=>.inl rfl⟩
 obtain⟨a,b,rfl⟩:=h.made aE rfl rfl ak;exact⟨_,_,a,b,b5.kh _ _ _,rfl,rfl,rfl⟩
theorem UM(h:cd P B w0 μ H w){elem:TypeId}{v v' r:Value}(az:bu μ v v')(he:wA H elem v=some (r,H')):
 ∃cW bn bw,(Instr.box elem v').run P w=.ok cW bn/\cd P B w0 bw H' bn/\Step μ bw H H'/\bu bw r cW:=by
 unfold wA at he;cases aj:v.cells.toList.all ff with
 |false=>rw[aj] at he;cases he
 |true=>
  rw[aj,cv] at he;cases aE:tY H elem v.cells.toList with
  |none=>rw[aE] at he;cases he
  |some p=>
   obtain⟨id,H1⟩:=p;rw[aE] at he;simp only[cD,dK] at he;obtain⟨rfl,rfl⟩:=he;obtain⟨bw,L,a,b,c,d,_⟩:=QZ h az.cells aE;refine⟨.pointer (some ⟨w.heap.size,0,none⟩),_,bw,?_,a,b,?_⟩
   ·simp[Instr.box,newVar,newRow,newObj,Sem.run]
   ·rw[<-d];exact .ptr id 0 L c
theorem afw{s:TypeId}{p h8 v:Value}{f:Nat}(ap:bu μ p h8)(he:Fx P s p f=some v)(w:World):
 ∃v',(Instr.fieldAt s h8 f).run P w=.ok v' w/\bu μ v v':=by
 unfold Fx at he;cases p with
 |pointer a=>
  cases a with
  |none=>simp at he
  |some a=>
   obtain⟨id,off,L,rfl,bB,rfl⟩:=ap.oZ;simp only at he;cases hu:P.underlying s with
   |none=>rw[hu] at he;cases he
   |some d=>
    rw[hu] at he;cases d with
    |struct fields=>
     simp only at he;cases aM:fields[f]? with
     |none=>rw[aM] at he;cases he
     |some fd=>
      rw[aM] at he;simp only at he;cases ag:eV P fd.type with
      |none=>rw[ag] at he;cases he
      |some n=>
       rw[ag] at he;cases n with
       |zero=>cases he
       |succ n=>
        simp only[cD] at he;subst he;refine⟨.pointer (some ⟨L.r,off+fd.offset,none⟩),?_,.ptr id _ L bB⟩;simp[Instr.fieldAt,eY hu,aM,Instr.sureAddr,fieldPlace,kP ag,Addr.qZ]
    |_=>cases he
 |_=>simp at he
theorem Qd{i:Int}{len n:Nat}(h:tQ i len=some n):i=(n:Int)/\n<len:=by
 unfold tQ at h;cases i with
 |ofNat m=>
  simp only at h;cases ak:Nat.blt m len with
  |false=>rw[ak] at h;cases h
  |true=>
   rw[ak,cv] at h;injection h with h;subst h
   exact⟨rfl,hZ ak⟩
 |negSucc m=>cases h
theorem Dr{i:Int}{len n:Nat}(h:qz i len=some n):i=(n:Int)/\n<=len:=by
 unfold qz at h;cases i with
 |ofNat m=>
  simp only at h;cases ak:Nat.ble m len with
  |false=>rw[ak] at h;cases h
  |true=>
   rw[ak,cv] at h;injection h with h;subst h
   exact⟨rfl,hZ ak⟩
 |negSucc m=>cases h
theorem bu.qA{k:IntKind}{n:Int}{v:Value}(h:bu μ (.int k n) v):v=.int k n:=by
 cases h;rfl
theorem bu.EV{b:Bool}{v:Value}(h:bu μ (.bool b) v):v=.bool b:=by cases h;rfl
theorem bu.HW{s:ByteArray}{v:Value}(h:bu μ (.string s) v):v=.string s:=by cases h;rfl
theorem afx{t:TypeId}{x dP bh W3 v:Value}(ab:bu μ x dP)(ar:bu μ bh W3)(he:wC P t x bh=some v)(w:World):
 ∃v',(Instr.indexAt t dP W3).run P w=.ok v' w/\bu μ v v':=by
 unfold wC at he;cases bh with
 |int k i=>
  obtain rfl:=ar.qA;simp only at he;cases hu:P.underlying t with
  |none=>rw[hu] at he;simp at he
  |some d=>
   rw[hu] at he;cases d with
   |array len elem=>
    cases x with
    |pointer a=>
     cases a with
     |none=>simp at he
     |some a=>
        obtain⟨id,off,L,rfl,bB,rfl⟩:=ab.oZ;simp only at he;cases aE:tQ i len with
        |none=>rw[aE] at he;simp at he
        |some n=>
         rw[aE] at he;cases ag:eV P elem with
         |none=>rw[ag] at he;simp at he
         |some sz=>
          rw[ag] at he;simp only[cD] at he;subst he;obtain⟨rfl,cA⟩:=Qd aE;refine⟨.pointer (some ⟨L.r,off+n*sz,none⟩),?_,.ptr id _ L bB⟩;simp[Instr.indexAt,asIntOf,eY hu,Instr.sureAddr,kP ag,cA,Addr.qZ]
    |_=>simp at he
   |slice elem=>
    cases x with
    |slice a len cap=>
     cases a with
     |none=>simp at he
     |some a=>
        have l3:a.spot=none:=by
         cases q:a.spot with
         |none=>rfl
         |some _=>simp[q] at he
        obtain⟨id,off,L,fV,ej,rfl,bB,rfl,aj,_,_⟩:=ab.vN (.inl l3);simp only at he;cases aE:tQ i len with
        |none=>rw[aE] at he;simp at he
        |some n=>
         rw[aE] at he;cases ag:eV P elem with
         |none=>rw[ag] at he;simp at he
         |some sz=>
          rw[ag] at he;simp only[cD] at he;subst he;obtain⟨rfl,cA⟩:=Qd aE;rw[aj (by omega)];refine⟨.pointer (some ⟨L.r,off+n*sz,none⟩),?_,.ptr id _ L bB⟩;simp[Instr.indexAt,asIntOf,eY hu,kP ag,cA,Addr.qZ]
    |_=>simp at he
   |_=>simp at he
 |_=>simp at he
end
end
end Go.Cre
namespace Go.Cre
noncomputable section
open Go.RowKit
section
variable {P:Program}{B:Nat->Prop}{w0 w:World}{μ:b5}{H H':aw}
def EH(μ:b5):Option Value->Option Value->Prop
 |none,none=>True
 |some v,some v'=>bu μ v v'
 |_,_=>False
theorem run_sliceBound{k:IntKind}{n y:Nat}(h:n<=y)(code:BoundsCode)(w:World):(Instr.sliceBound (.int k (n:Int)) y code).run P w=.ok n w:=by
 have:(n:Int)<=(y:Int):=by omega
 simp[Instr.sliceBound,asIntOf,this]
theorem EX{lo xm ar lZ:Option Value}(hz:EH μ lo xm)(kM:EH μ ar lZ){len top zt h l:Nat}{Dt:Bool}(c9:ks len top ar=some h)(aD:ks 0 h lo=some l)(aS:top<=zt)(w:World):
 (Instr.sliceBounds Dt len zt xm lZ none).run P w=.ok (l,h,zt) w/\l<=h/\(len<=zt->h<=zt):=by
 have ad:(ar=none/\lZ=none/\h=len)\/(∃k,ar=some (.int k h)/\lZ=some (.int k h)/\h<=top):=by
  cases ar with
  |none=>cases lZ with
   |none=>simp[ks] at c9;exact .inl ⟨rfl,rfl,c9.symm⟩
   |some v=>exact kM.elim
  |some v=>cases lZ with
   |none=>exact kM.elim
   |some v'=>
    cases v with
    |int k i=>
     obtain⟨rfl,hle⟩:=Dr (by simpa[ks] using c9);have:=bu.qA kM;subst this;exact .inr ⟨k,rfl,rfl,hle⟩
    |_=>simp[ks] at c9
 have af:(lo=none/\xm=none/\l=0)\/(∃k,lo=some (.int k l)/\xm=some (.int k l)/\l<=h):=by
  cases lo with
  |none=>cases xm with
   |none=>simp[ks] at aD;exact .inl ⟨rfl,rfl,aD.symm⟩
   |some v=>exact hz.elim
  |some v=>cases xm with
   |none=>exact hz.elim
   |some v'=>
    cases v with
    |int k i=>
     obtain⟨rfl,hle⟩:=Dr (by simpa[ks] using aD);have:=bu.qA hz;subst this;exact .inr ⟨k,rfl,rfl,hle⟩
    |_=>simp[ks] at aD
 rcases ad with⟨_,rfl,rfl⟩|⟨k,_,rfl,aC⟩<;>rcases af with⟨_,rfl,rfl⟩|⟨lB,_,rfl,aW⟩
 ·exact⟨by simp[Instr.sliceBounds],by omega,by omega⟩
 ·exact⟨by simp[Instr.sliceBounds,run_sliceBound aW],by omega,by omega⟩
 ·exact⟨by simp[Instr.sliceBounds,run_sliceBound (show h<=zt by omega)],by omega,by omega⟩
 ·exact⟨by simp[Instr.sliceBounds,run_sliceBound (show h<=zt by omega),run_sliceBound aW],by omega,by omega⟩
theorem MP{a b:Nat}(h:a≠b):Nat.beq a b=false:=by
 cases q:Nat.beq a b
 ·rfl
 ·exact absurd (eC q) h
theorem afH(h:cd P B w0 μ H w){t:TypeId}{x dP v:Value}{lo xm ar lZ:Option Value}(ab:bu μ x dP)(hz:EH μ lo xm)(kM:EH μ ar lZ)(he:kt P H t x lo ar=some v):
 ∃v',(Instr.sliceAt t dP xm lZ none).run P w=.ok v' w/\bu μ v v':=by
 unfold kt at he;cases hu:P.underlying t with
 |none=>rw[hu] at he;simp at he
 |some d=>
  rw[hu] at he;cases d with
  |array n elem=>
   cases x with
   |pointer a=>
    cases a with
    |none=>simp at he
    |some a=>
     obtain⟨id,off,L,rfl,bB,rfl⟩:=ab.oZ;simp only at he;cases ag:eV P elem with
     |none=>rw[ag] at he;simp at he
     |some sz=>
      rw[ag] at he;simp only at he;cases m5:Nat.blt n cQ with
      |false=>rw[m5] at he;simp at he
      |true=>
      rw[m5] at he;simp only[ov,dB] at he;have ash:n<cQ:=hZ m5;cases c9:ks n n ar with
      |none=>rw[c9] at he;simp at he
      |some CZ=>
       rw[c9] at he;simp only at he;cases aD:ks 0 CZ lo with
       |none=>rw[aD] at he;simp at he
       |some l=>
        rw[aD] at he;simp only[cD] at he;subst he;obtain⟨bQ,bL,cZ⟩:=EX (P:=P) (Dt:=false) hz kM c9 aD (bX _) w;show ∃v',_/\bu μ (.slice (some (bif Nat.beq n l then _ else _)) (CZ -l) (n -l)) v';by_cases ei:n=l
        ·subst ei;refine⟨.slice (some ⟨L.r,off,none⟩) (CZ -n) (n -n),?_,?_⟩
         ·simp[Instr.sliceAt,eY hu,Instr.sureAddr,bQ,kP ag]
         ·rw[hY n,cv];exact .nJ id off (CZ -n) (n -n) L bB (by omega)
        ·refine⟨.slice (some ⟨L.r,off+l*sz,none⟩) (CZ -l) (n -l),?_,?_⟩
         ·simp[Instr.sliceAt,eY hu,Instr.sureAddr,bQ,kP ag,ei,Addr.qZ]
         ·rw[MP ei,dB];exact .nJ id (off+l*sz) (CZ -l) (n -l) L bB (by omega)
   |_=>simp at he
  |slice elem=>
   cases x with
   |slice a len cap=>
    cases a with
    |none=>simp at he
    |some a=>
     have l3:a.spot=none:=by
      cases q:a.spot with
      |none=>rfl
      |some _=>simp[q] at he
     obtain⟨id,off,L,fV,ej,rfl,bB,rfl,aj,_,tF⟩:=ab.vN (.inl l3);simp only at he;cases ag:eV P elem with
     |none=>rw[ag] at he;simp at he
     |some sz=>
      rw[ag] at he;simp only at he;by_cases eA:cap=cQ
      ·subst eA;rw[hY,cv] at he;cases hm:H.mem.get id with
       |none=>rw[hm] at he;simp at he
       |some b=>
        rw[hm] at he;cases b with
        |row cells el opn bP ey sh=>
         simp only at he;cases ij:Nat.beq el elem with
         |false=>rw[ij] at he;simp at he
         |true=>
          rw[ij] at he;simp only[ov,dB] at he;have:=eC ij;subst this;obtain⟨c,f,dQ,ee,fB,iD,ue,Lv,HN⟩:=h.row bB hm;have ea:L.sz=sz:=by rw[<-fB];exact RJ ag
          cases c9:ks len len ar with
          |none=>rw[c9] at he;simp at he
          |some g=>
           rw[c9] at he;simp only at he;cases aD:ks 0 g lo with
           |none=>rw[aD] at he;simp at he
           |some l=>
            rw[aD] at he;simp only[cD] at he;subst he;show ∃v',_/\bu μ (.slice _ (g -l) cQ) v';rcases tF with⟨bH,_,_⟩|⟨_,bM,rfl,db⟩|⟨_,rfl,rfl⟩
            ·omega
            ·obtain⟨bQ,bL,cZ⟩:=EX (P:=P) (Dt:=true) hz kM c9 aD bM w;have aF:g<=len:=by
              have:=(EX (P:=P) (Dt:=true) hz kM c9 aD (bX _) w).2.2;exact this (bX _)
             by_cases J8:ej=l
             ·subst J8;refine⟨.slice (some ⟨L.r,fV,none⟩) (g -ej) (ej -ej),?_,?_⟩
              ·simp[Instr.sliceAt,Instr.slice,eY hu,bQ,kP ag]
              ·have aC:g -ej=0:=by omega
               rw[aC,uJ];exact .vM id _ fV L bB
             ·refine⟨.slice (some ⟨L.r,fV+l*sz,none⟩) (g -l) (ej -l),?_,?_⟩
              ·simp[Instr.sliceAt,Instr.slice,eY hu,bQ,kP ag,J8,Addr.qZ]
              ·refine .pQ id _ _ _ L bB (by omega) ?_;rw[ea] at db ⊢;have:ej*sz=l*sz+(ej -l)*sz:=by rw[<-c3];congr 1;omega
               omega
            ·obtain⟨bQ,bL,cZ⟩:=EX (P:=P) (Dt:=true) (zt:=0) hz kM c9 aD (bX _) w;have:=cZ (bX _);have aC:g=0:=by omega
             have aW:l=0:=by omega
             subst aC;subst aW;refine⟨.slice (some ⟨L.r,fV,none⟩) 0 0,?_,?_⟩
             ·simp[Instr.sliceAt,Instr.slice,eY hu,bQ,kP ag]
             ·exact .vM id _ fV L bB
        |_=>simp at he
      ·rw[MP eA,dB] at he;rcases tF with⟨bH,rfl,rfl⟩|⟨q,_⟩|⟨q,_⟩
       ·cases c9:ks len ej ar with
        |none=>rw[c9] at he;simp at he
        |some g=>
         rw[c9] at he;simp only at he;cases aD:ks 0 g lo with
         |none=>rw[aD] at he;simp at he
         |some l=>
          rw[aD] at he;simp only[cD] at he;subst he;show ∃v',_/\bu μ (.slice (some (bif Nat.beq ej l then _ else _)) (g -l) (ej -l)) v';obtain⟨bQ,bL,cZ⟩:=EX (P:=P) (Dt:=true) hz kM c9 aD (bX _) w;by_cases ei:ej=l
          ·subst ei;refine⟨.slice (some ⟨L.r,fV,none⟩) (g -ej) (ej -ej),?_,?_⟩
           ·simp[Instr.sliceAt,Instr.slice,eY hu,bQ,kP ag]
           ·rw[hY,cv];exact .nJ id fV _ _ L bB (by omega)
          ·refine⟨.slice (some ⟨L.r,fV+l*sz,none⟩) (g -l) (ej -l),?_,?_⟩
           ·simp[Instr.sliceAt,Instr.slice,eY hu,bQ,kP ag,ei,Addr.qZ]
           ·rw[MP ei,dB];exact .nJ id _ _ _ L bB (by omega)
       ·exact absurd q eA
       ·exact absurd q eA
   |_=>simp at he
  |_=>simp at he
theorem Io(z:List Value):fM z 0=[]:=by
 rcases z with _|⟨a,_|⟨b,z⟩⟩<;>rfl
theorem Ej(z:List Value)(n:Nat):fM z (n+1)=z++fM z n:=by
 rcases z with _|⟨a,_|⟨b,z⟩⟩<;>rfl
theorem Su(z:List Value)(n:Nat):(fM z n).length=n*z.length:=by
 induction n with
 |zero=>simp[Io]
 |succ n aZ=>simp[Ej,aZ,o9];omega
theorem aqN(z:List Value)(n i:Nat)(h:i<n*z.length):(fM z n)[i]?=z[i % z.length]?:=by
 induction n generalizing i with
 |zero=>simp at h
 |succ n aZ=>
  simp only[Ej];rw[SX];split
  ·rename_i ar;rw[nO ar]
  ·rename_i ar;rw[aZ (i -z.length) (by rw[o9] at h;omega)];congr 1
   exact(Nat.mod_eq_sub_mod (by omega)).symm
theorem Im{z:List Value}{n:Nat}{v:Value}{p:Value->Prop}(h:v∈fM z n)(ap:∀u∈z,p u):p v:=by
 induction n with
 |zero=>simp[Io] at h
 |succ m aZ=>
  simp only[Ej,qV] at h;rcases h with h|h
  ·exact ap v h
  ·exact aZ h
theorem MX{t:TypeId}{n:Nat}(h:uQ P t=some n):∃i,P.info? t=some i/\i.bytes=n:=by
 unfold uQ at h;cases ar:P.info? t with
 |none=>rw[ar] at h;cases h
 |some i=>rw[ar] at h;injection h with h;exact⟨i,rfl,h⟩
theorem Ip(z:List Value)(n:Nat):(Array.range (n*z.length)).map (fun i=>(z.toArray)[i % z.toArray.size]!)=(fM z n).toArray:=by
 apply El
 intro i;by_cases ar:i<n*z.length
 ·have aL:0<z.length:=by
   rcases jj z.length with q|q
   ·rw[q] at ar;simp at ar
   ·exact q
  have hm:i % z.length<z.length:=fJ _ aL;have e:(fM z n).toArray[i]?=z[i % z.length]?:=by rw[<-aqN z n i ar];simp
  rw[e];simp[ar,hm]
 ·rw[s5 (by simp;omega),s5 (by simp[Su];omega)]
theorem pN{v:Value}(h:plain v=true):bu μ v v:=bu.alJ h
theorem Lp{v v':Value}(h:plain v=true)(av:bu μ v v'):v'=v:=bu.Lp h av
theorem ca.D2{l:List Value}(h:∀v∈l,bu μ v v):ca μ l l:=⟨rfl,fun i v v' a b=>by
 rw[a] at b;injection b with b;subst b;exact h v (jS a)⟩
theorem afB(h:cd P B w0 μ H w){t:TypeId}{l l' c c' v:Value}(aD:bu μ l l')(aJ:bu μ c c')(he:Fy P H t l c=some (v,H')):
 ∃v' bn bw,(Instr.makeSlice t l' c').run P w=.ok v' bn/\cd P B w0 bw H' bn/\Step μ bw H H'/\bu bw v v':=by
 unfold Fy at he;cases l with
 |int a7 l=>
  cases c with
  |int a0 c=>
   obtain rfl:=aD.qA;obtain rfl:=aJ.qA;cases hu:P.underlying t with
   |none=>rw[hu] at he;simp at he
   |some d=>
    rw[hu] at he;cases d with
    |slice elem=>
     simp only at he;cases aL:gR P elem with
     |none=>rw[aL] at he;simp at he
     |some z=>
      rw[aL] at he;cases h3:uQ P elem with
      |none=>rw[h3] at he;simp at he
      |some jm=>
       rw[h3] at he;cases ag:eV P elem with
       |none=>rw[ag] at he;simp at he
       |some sz=>
        rw[ag] at he;simp only at he;cases tC:qz c 1000000 with
        |none=>rw[tC] at he;simp at he
        |some lm=>
         rw[tC] at he;cases dL:qz l 1000000 with
         |none=>rw[dL] at he;simp at he
         |some fU=>
          rw[dL] at he;simp only at he;cases wT:(Nat.ble fU lm&&Nat.ble jm 1000000&&Nat.beq z.cells.toList.length sz&&z.cells.toList.all ff&&plain z) with
          |false=>rw[wT] at he;simp at he
          |true=>
           rw[wT,cv] at he;simp only[gI] at wT;obtain⟨⟨⟨⟨aX,aU⟩,b0⟩,dN⟩,gl⟩:=wT;have aX:=hZ aX;have aU:=hZ aU;have b0:=eC b0;obtain⟨rfl,gY⟩:=Dr tC;obtain⟨rfl,n6⟩:=Dr dL;cases aE:tY H elem (fM z.cells.toList lm) with
           |none=>rw[aE] at he;simp at he
           |some p=>
            obtain⟨id,H1⟩:=p;rw[aE] at he;simp only[cD,dK] at he;obtain⟨rfl,rfl⟩:=he;have sF:ca μ z.cells.toList z.cells.toList:=(pN gl).cells;have wS:ca μ (fM z.cells.toList lm) (fM z.cells.toList lm):=ca.D2 fun v az=>by
                exact Im (p:=fun v=>bu μ v v) az (fun u hu=>by
                 obtain⟨i,ar⟩:=zJ.1 hu;exact sF.2 i u u ar ar)
            obtain⟨bw,L,a,b,bH,d1,_⟩:=QZ h wS aE;refine⟨.slice (some ⟨w.heap.size,0,none⟩) fU lm,_,bw,?_,a,b,?_⟩
            ·obtain⟨i,ar,rfl⟩:=MX h3
             have oh:i.zero=some z:=by simpa[gR,ar] using aL
             have sA:i.size=sz:=by simpa[eV,ar] using ag
             have hmul:i.bytes*lm<=1000000*1000000:=r1 aU gY;have gD:=Ip z.cells.toList lm;have gZ:=run_make (P:=P) w t elem i z hu ar oh a7 a0 (fU:Int) (lm:Int) (by omega) (by omega) (by
                 have:(i.bytes:Int)*(lm:Int)=((i.bytes*lm:Nat):Int):=by simp
                 rw[this];omega) (by omega)
             rw[gZ];simp only[jy];congr 3
             rw[<-gD];simp[madeCells,sA,<-b0]
            ·rw[<-d1];exact .nJ id 0 fU lm L bH (by have:(1000000:Nat)<cQ:=by decide
                                                    omega)
    |_=>simp at he
  |_=>simp at he
 |_=>simp at he
end
end
end Go.Cre
namespace Go.Cre
noncomputable section
open Go.RowKit
section
variable {P:Program}{B:Nat->Prop}{w0 w:World}{μ:b5}{H H':aw}
theorem Xp{x dP:Value}{m:Nat}(ab:bu μ x dP)(hm:rq x=some m)(w:World):(Builtin.lenOf dP).run P w=.ok m w:=by
 cases x with
 |slice a len cap=>
  simp[rq] at hm;subst hm;cases a with
  |none=>rw[ab.sW];simp[Builtin.lenOf]
  |some a=>obtain⟨bV,ej,rfl⟩:=ab.zo;simp[Builtin.lenOf]
 |string s=>rw[ab.HW];simp[rq] at hm;subst hm;rfl
 |_=>simp[rq] at hm
theorem acK(s:ByteArray)(n:Nat):((s.extract 0 n).data.map fun b=>Value.int .u8 b.toNat)=((s.data.toList.take n).map fun b=>Value.int .u8 b.toNat).toArray:=by
 apply rS
 simp[ByteArray.data_extract]
theorem Jw(h:cd P B w0 μ H w){x dP:Value}{sz n m:Nat}{l:List Value}(ab:bu μ x dP)(hm:rq x=some m)(aE:n<=m)(he:jV H sz n x=some l):
 ∃l',ca μ l l'/\∀gv,(Builtin.firstCells sz n dP).run P {w with drawn:=gv}=.ok l'.toArray {w with drawn:=gv}:=by
 cases x with
 |slice a len cap=>
  simp[rq] at hm;subst hm;cases a with
  |none=>
   rw[ab.sW];cases n with
   |zero=>simp[jV] at he;subst he;exact⟨[],ca.nil _,fun gv=>by simp[Builtin.firstCells]⟩
   |succ n=>simp[jV] at he
  |some a=>
   cases n with
   |zero=>
    obtain⟨bV,ej,rfl⟩:=ab.zo;simp[jV] at he;subst he;exact⟨[],ca.nil _,fun gv=>by simp[Builtin.firstCells,loadCells,loadCellsFrom]⟩
   |succ n=>
    obtain⟨id,off,L,fV,ej,rfl,bB,rfl,aj,_⟩:=ab.vN (.inr (.inl (by omega)));simp only[jV] at he;rw[aj (by omega)];cases rh:H.mem.get id with
    |none=>rw[rh] at he;simp at he
    |some b=>
     rw[rh] at he;cases b with
     |row cells elem opn bP ey sh=>
      simp only at he;obtain⟨l',ck,ch,c6⟩:=h.cells bB rh he;refine⟨l',ck,fun gv=>?_⟩;exact run_firstCells_some (P:=P) {w with drawn:=gv} sz (n+1) ⟨L.r,off,none⟩ len ej l' (by rw[ch]) (fun j v bf=>by rw[Addr.qZ];exact c6 j v bf)
     |_=>simp at he
 |string s=>
  rw[ab.HW];simp only[jV] at he;cases aS:takeN n s.data.toList with
  |none=>rw[aS] at he;simp at he
  |some lk=>
   rw[aS] at he;simp only[cD] at he;subst he;obtain⟨aC,aW,cw⟩:=D5 aS;refine⟨lk.map fun b=>.int .u8 b.toNat,ca.D2 fun v az=>?_,fun gv=>?_⟩
   ·obtain⟨b,_,rfl⟩:=rW.1 az;exact .atom _ rfl
   ·simp only[Builtin.firstCells,acK,aC];rfl
 |_=>simp[rq] at hm
theorem RB(t hM dH e:TypeId)(ht:TypeDesc)(i:TypeInfo)(z:Value)(aS:P.underlying t=some (.slice e))(kN:P.underlying hM=some ht)(so:∀k,ht≠.int k)(ar:P.info? e=some i)(aL:i.zero=some z)
 (base:Option Addr)(da iE n:Nat)(x:Value)(Yu news:List Value)(hlen:∀w,(Builtin.lenOf x).run P w=.ok n w)
 (hold:∀gv,(Builtin.firstCells i.size da (.slice base da iE)).run P {w with drawn:=gv}=.ok Yu.toArray {w with drawn:=gv})
 (mF:∀gv,(Builtin.firstCells i.size n x).run P {w with drawn:=gv}=.ok news.toArray {w with drawn:=gv})
 (aF:iE<da+n) (wI:da+n<=1000000) (h3:i.bytes<=1000000):
 (Builtin.append_ #[t,hM] dH #[.slice base da iE,x]).run P w=
  .ok (.slice (some ⟨w.heap.size,0,none⟩) (da+n) (grownCap w (da+n) iE e))
   (w.drew.alloc (.cells (Yu.toArray++(news.toArray++Builtin.zeroCells z.cells (grownCap w (da+n) iE e -(da+n)))) e)):=by
 have aE:¬(da+n<=iE):=by omega
 have agN:¬(9223372036854775807<((da:Int)+(n:Int))):=by omega
 have hmul:(da+n)*i.bytes<=1000000*1000000:=r1 wI h3
 have agM:¬(281474976710656<Builtin.nextslicecap (da+n) iE*i.bytes):=by
  have:=growslice_fits (bytes:=i.bytes) aF (by omega);omega
 have aj:=hold (w.drawn+1);have hw:=mF (w.drawn+1);have pn:({w with drawn:=w.drawn+1}:World)=w.drew:=rfl;rw[pn] at aj hw;simp[Builtin.append_,run_underlying aS,run_underlying kN,sizeOf,typeInfo,zeroValue,ar,aL,hlen,aE,agN,agM,Question.forced,hw,aj,newRow,grownCap]
theorem LC(t hM dH e:TypeId)(ht:TypeDesc)(i:TypeInfo)(aS:P.underlying t=some (.slice e))(kN:P.underlying hM=some ht)(so:∀k,ht≠.int k)(ar:P.info? e=some i)
 (base:Option Addr)(da iE n:Nat)(x:Value)(news:List Value)(bn:World)(hlen:∀w,(Builtin.lenOf x).run P w=.ok n w)
 (mF:(Builtin.firstCells i.size n x).run P w=.ok news.toArray w)(aF:da+n<=iE)
 (dR:∀a,base=some a->(storeCells (a.add (da*i.size)) news).run P w=.ok () bn)(hA:base=none->bn=w):
 (Builtin.append_ #[t,hM] dH #[.slice base da iE,x]).run P w=.ok (.slice base (da+n) iE) bn:=by
 cases base with
 |none=>
  rw[hA rfl];simp[Builtin.append_,run_underlying aS,run_underlying kN,sizeOf,typeInfo,ar,hlen,aF,mF]
 |some a=>
  have:=dR a rfl;simp[Builtin.append_,run_underlying aS,run_underlying kN,sizeOf,typeInfo,ar,hlen,aF,mF,this]
end
end
end Go.Cre

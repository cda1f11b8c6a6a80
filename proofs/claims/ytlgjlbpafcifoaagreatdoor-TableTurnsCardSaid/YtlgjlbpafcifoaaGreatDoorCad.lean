/- A part of the proof of TableTurns. -/
import Derived.Test.YtlgjlbpafcifoaaGreatDoorCac
import Derived.Laws.MakeOwn
set_option linter.unusedVariables false
set_option linter.unusedSimpArgs false
namespace Go.Cre
noncomputable section
open Go.RowKit
section
variable {P:Program}{B:Nat->Prop}{w0 w:World}{μ:bL}{H H':an}
theorem bg.oK{a:Addr}{v:Value}(h:bg μ (.pointer (some a)) v):∃id off L,a=⟨id,off,none⟩/\μ id=some L/\v=.pointer (some ⟨L.r,off,none⟩):=by
 cases h with
 |atom _ h=>simp[isAtom] at h
 |ptr id off L a4=>exact⟨id,off,L,rfl,a4,rfl⟩
theorem bg.y7{a:Addr}{len cap:Nat}{v:Value}(h:bg μ (.slice (some a) len cap) v):∃bO dT,v=.slice (some bO) len dT:=by
 cases h with
 |atom _ h=>simp[isAtom] at h
 |nu id off len cap L a4 aD=>exact⟨_,_,rfl⟩
 |pE id off len cap L a4 aD nS=>exact⟨_,_,rfl⟩
 |vp id off fI L a4=>exact⟨_,_,rfl⟩
 |xv a=>exact⟨_,_,rfl⟩
theorem bg.apc{a:Addr}{len cap:Nat}{v:Value}(h:bg μ (.slice (some a) len cap) v)(aD:cap≠cG):∃bO,v=.slice (some bO) len cap:=by
 cases h with
 |atom _ h=>simp[isAtom] at h
 |nu id off len cap L a4 aD=>exact⟨_,rfl⟩
 |pE id off len cap L a4 aD nS=>exact absurd rfl aD
 |vp id off fI L a4=>exact absurd rfl aD
 |xv a=>exact⟨_,rfl⟩
theorem bg.vq{a:Addr}{len cap:Nat}{v:Value}(h:bg μ (.slice (some a) len cap) v)(hs:a.spot=none\/0<len\/0<cap):
 ∃id off L fI dT,a=⟨id,off,none⟩/\μ id=some L/\v=.slice (some ⟨L.r,fI,none⟩) len dT/\(0<len->fI=off)/\len<=max len dT/\
  ((cap<cG/\dT=cap/\fI=off)\/(cap=cG/\len<=dT/\fI=off/\off+dT*L.sz<=L.N)\/(cap=cG/\len=0/\dT=0)):=by
 cases h with
 |atom _ h=>simp[isAtom] at h
 |nu id off len cap L a4 aD=>exact⟨id,off,L,off,cap,rfl,a4,rfl,fun _=>rfl,by omega,.inl ⟨aD,rfl,rfl⟩⟩
 |pE id off len cap L a4 aD nS=>exact⟨id,off,L,off,cap,rfl,a4,rfl,fun _=>rfl,by omega,.inr (.inl ⟨rfl,aD,rfl,nS⟩)⟩
 |vp id off fI L a4=>exact⟨id,off,L,fI,0,rfl,a4,rfl,fun h=>absurd h (by omega),by omega,.inr (.inr ⟨rfl,rfl,rfl⟩)⟩
 |xv a=>rcases hs with q|q|q<;>cases q
theorem bg.sx{len cap:Nat}{v:Value}(h:bg μ (.slice none len cap) v):v=.slice none len cap:=by cases h;rfl
theorem bg.Dz{v:Value}(h:bg μ (.pointer none) v):v=.pointer none:=by cases h;rfl
theorem bg.GG{r:Nat}{v:Value}(h:bg μ (.map (some r)) v):∃L,μ r=some L/\v=.map (some L.r):=by
 cases h with
 |atom _ h=>simp[isAtom] at h
 |map id L a4=>exact⟨L,a4,rfl⟩
theorem bg.GI{v:Value}(h:bg μ (.map none) v):v=.map none:=by cases h;rfl
theorem bg.wX{t:TypeId}{x v:Value}(h:bg μ (.iface t x) v):∃dv,v=.iface t dv/\bg μ x dv:=by
 cases h with
 |atom _ h=>simp[isAtom] at h
 |iface t v v' h=>exact⟨v',rfl,h⟩
theorem bg.GU{v:Value}(h:bg μ .nilIface v):v=.nilIface:=by cases h;rfl
theorem bg.KA{v:Value}(h:bg μ .nilFunc v):v=.nilFunc:=by cases h;rfl
theorem kk{t:TypeId}{n:Nat}(h:ey P t=some n)(w:World):(sizeOf t).run P w=.ok n w:=by
 unfold ey at h;cases ak:P.info? t with
 |none=>rw[ak] at h;cases h
 |some i=>rw[ak] at h;injection h with h;subst h;simp[sizeOf,typeInfo,ak]
theorem Rz{t:TypeId}{n:Nat}(h:ey P t=some n):P.cellsOf t=n:=by
 unfold ey at h;cases ak:P.info? t with
 |none=>rw[ak] at h;cases h
 |some i=>rw[ak] at h;injection h with h;subst h;simp[Program.cellsOf,ak]
theorem vx{t:TypeId}{z:Value}(h:gX P t=some z)(w:World):(zeroValue t).run P w=.ok z w:=by
 unfold gX at h;cases ak:P.info? t with
 |none=>rw[ak] at h;cases h
 |some i=>rw[ak] at h;simp only at h;simp[zeroValue,typeInfo,ak,h]
theorem eE{t:TypeId}{d:TypeDesc}(h:P.underlying t=some d)(w:World):(underlying t).run P w=.ok d w:=by
 simp[underlying,h]
theorem Tx{t:TypeId}{n:Nat}(h:rM P t=some (some n)):(∀w,(isAgg t).run P w=.ok true w)/\ey P t=some n:=by
 unfold rM at h;cases ak:P.info? t with
 |none=>rw[ak] at h;cases h
 |some i=>
  rw[ak] at h;simp only at h;refine⟨fun w=>?_,?_⟩
  ·cases hu:P.underlying t with
   |none=>rw[hu] at h;cases h
   |some d=>rw[hu] at h;cases d<;>first|(simp[isAgg,underlying,hu];done)|(simp at h)
  ·cases hu:P.underlying t with
   |none=>rw[hu] at h;cases h
   |some d=>rw[hu] at h;cases d<;>first|(simp at h;simp[ey,ak,h];done)|(simp at h)
theorem Tw{t:TypeId}(h:rM P t=some none):∀w,(isAgg t).run P w=.ok false w:=by
 unfold rM at h;cases ak:P.info? t with
 |none=>rw[ak] at h;cases h
 |some i=>
  rw[ak] at h;simp only at h;intro w;cases hu:P.underlying t with
  |none=>rw[hu] at h;cases h
  |some d=>rw[hu] at h;cases d<;>first|(simp[isAgg,underlying,hu];done)|(simp at h)
theorem UE{t:TypeId}{cs cy:List Value}{off:Nat}{v:Value}(aq:bT μ cs cy)(he:mD P t cs off=some v)(w:World):
 ∃v',(part t cy.toArray off).run P w=.ok v' w/\bg μ v v':=by
 unfold mD at he;cases aF:rM P t with
 |none=>rw[aF] at he;cases he
 |some q=>
  rw[aF] at he;cases q with
  |none=>
   simp only[kA] at he;obtain⟨v',ab,ad⟩:=aq.get he;refine⟨v',?_,ad⟩;simp[part,Tw aF,ab]
  |some n=>
   simp only[v9] at he;obtain⟨ab,ad⟩:=Tx aF;cases aJ:takeN n (cs.drop off) with
   |none=>rw[aJ] at he;cases he
   |some l=>
    rw[aJ] at he;injection he with he;subst he
    obtain⟨aw,aR,cf⟩:=DK aJ;refine⟨.agg ((cy.drop off).take n).toArray,?_,?_⟩
    ·simp[part,ab,kk ad]
    ·rw[aw];exact bg.Em ((aq.drop off).take n)
theorem bX.row(h:bX P B w0 μ H w){id:Nat}{L:Loc}{cells:List Value}{elem:TypeId}{opn:Bool}{bw ef:Nat}{sh:Bool}(a4:μ id=some L)(hm:H.mem.get id=some (.row cells elem opn bw ef sh)):
 ∃c f,w.heap[L.r]?=some (.cells c elem f)/\c.size=L.N/\P.cellsOf elem=L.sz/\cells.length<=L.N/\(opn=false->cells.length=L.N)/\bT μ cells (c.toList.take cells.length)/\NO L.N ef sh f:=by
 obtain⟨b,o,aK,aH,bJ⟩:=h.fS id L a4;rw[hm] at aK;injection aK with aK;subst aK
 cases o with
 |cells c e f=>
  obtain⟨rfl,cW,eR,hH,tQ,K7,Hj⟩:=bJ;refine⟨c,f,aH,cW,eR,hH,tQ,⟨by simp;omega,fun i v v' a b=>?_⟩,Hj⟩;rw[iH] at b;split at b
  ·exact K7 i v v' a (by simpa using b)
  ·cases b
 |_=>exact bJ.elim
theorem bX.map(h:bX P B w0 μ H w){id:Nat}{L:Loc}{es:List MapEntry}{clock:Nat}(a4:μ id=some L)(hm:H.mem.get id=some (.map es clock)):
 ∃m7 IZ,w.heap[L.r]?=some (.map m7 IZ)/\zh μ es m7.toList:=by
 obtain⟨b,o,aK,aH,bJ⟩:=h.fS id L a4;rw[hm] at aK;injection aK with aK;subst aK
 cases o with
 |map m7 c'=>exact⟨m7,c',aH,bJ⟩
 |_=>exact bJ.elim
theorem bX.cells(h:bX P B w0 μ H w){id:Nat}{L:Loc}{cells:List Value}{elem:TypeId}{opn:Bool}{bw ef:Nat}{sh:Bool}(a4:μ id=some L)(hm:H.mem.get id=some (.row cells elem opn bw ef sh))
 {off n:Nat}{l:List Value}(aJ:takeN n (nP off cells)=some l):∃l',bT μ l l'/\l'.length=n/\(∀j v,l'[j]?=some v->w.cell? ⟨L.r,off+j,none⟩=some v):=by
 obtain⟨c,f,ab,ad,aL,a6,fb,fX,na⟩:=h.row a4 hm;obtain⟨aw,aR,cf⟩:=DK aJ;rw[v9] at aw cf;refine⟨((c.toList.take cells.length).drop off).take n,?_,?_,?_⟩
 ·rw[aw];exact(fX.drop off).take n
 ·have:=((fX.drop off).take n).1;rw[<-aw,aR] at this;exact this.symm
 ·intro j v aY;rw[iH] at aY;split at aY
  ·rw[oX,iH] at aY;split at aY
   ·rw[cell_of_row ab];simpa using aY
   ·cases aY
  ·cases aY
theorem UB(h:bX P B w0 μ H w){t:TypeId}{id off:Nat}{L:Loc}{v:Value}(a4:μ id=some L)(he:Cc P H t ⟨id,off,none⟩=some v):
 ∃v',(loadVar t ⟨L.r,off,none⟩).run P w=.ok v' w/\bg μ v v':=by
 simp only[Cc] at he;cases hm:H.mem.get id with
 |none=>rw[hm] at he;cases he
 |some b=>
  rw[hm] at he;cases b with
  |row cells elem opn bw ef sh=>
   simp only at he;unfold mD at he;cases aF:rM P t with
   |none=>rw[aF] at he;cases he
   |some q=>
    rw[aF] at he;cases q with
    |none=>
     simp only[kA] at he;obtain⟨c,f,ab,ad,aL,a6,fb,fX,na⟩:=h.row a4 hm;obtain⟨v',bY,bZ⟩:=fX.get he;refine⟨v',?_,bZ⟩;rw[iH] at bY;split at bY
     ·have:w.cell? ⟨L.r,off,none⟩=some v':=by rw[cell_of_row ab];simpa using bY
      simp[loadVar,Tw aF,load,Sem.run,this]
     ·cases bY
    |some n=>
     obtain⟨ab,ad⟩:=Tx aF;simp only at he;cases aJ:takeN n (nP off cells) with
     |none=>rw[aJ] at he;cases he
     |some l=>
      rw[aJ] at he;injection he with he;subst he
      obtain⟨l',bY,bZ,cz⟩:=h.cells a4 hm aJ;refine⟨.agg l'.toArray,?_,bg.Em bY⟩;have:=run_loadCells_list (P:=P) w ⟨L.r,off,none⟩ l' (fun j v aY=>by rw[Addr.qI];exact cz j v aY);rw[bZ] at this;simp[loadVar,ab,kk ad,this]
  |_=>cases he
theorem afR(h:bX P B w0 μ H w){t:TypeId}{p hG v:Value}(ao:bg μ p hG)(he:zU P H t p=some v):
 ∃v',(Instr.loadAt t hG).run P w=.ok v' w/\bg μ v v':=by
 unfold zU at he;cases p with
 |pointer a=>
  cases a with
  |none=>simp at he
  |some a=>
   obtain⟨id,off,L,rfl,a4,rfl⟩:=ao.oK;simp only at he;obtain⟨v',ab,ad⟩:=UB h a4 he;exact⟨v',by simp[Instr.loadAt,Instr.sureAddr,ab],ad⟩
 |_=>simp at he
theorem afZ(h:bX P B w0 μ H w){t:TypeId}{p hG v v':Value}(ao:bg μ p hG)(ar:bg μ v v')(he:zV P H t p v=some H'):
 ∃a5,(Instr.storeAt t hG v').run P w=.ok () a5/\bX P B w0 μ H' a5/\Step μ μ H H':=by
 unfold zV at he;cases p with
 |pointer a=>
  cases a with
  |none=>simp at he
  |some a=>
   obtain⟨id,off,L,rfl,a4,rfl⟩:=ao.oK;simp only at he;cases hs:ey P t with
   |none=>rw[hs] at he;cases he
   |some n=>
    rw[hs] at he;simp only at he;cases ai:Nat.beq v.cells.toList.length n with
    |false=>rw[ai] at he;cases he
    |true=>
     rw[ai,b4] at he;obtain⟨a5,ab,ad,aL⟩:=I7 h a4 ar.cells he;have az:=eb ai;have ap:=ar.cells.1;refine⟨a5,?_,ad,aL⟩;have dF:v'.cells.size=n:=by simp at ap az;omega
     simp[Instr.storeAt,Instr.sureAddr,storeVar,kk hs,dF,ab]
 |_=>simp at he
theorem acz{l l':List Value}(h:bT μ l l')(aF:l.all eV=true):∀v∈l',eV v=true:=fun v ar=>by
 obtain⟨i,ak⟩:=zm.1 ar;have ys:i<l.length:=by have:=(gS.1 ak).1;have:=h.1;omega
 rw[(h.2 i l[i] v (dX ys) ak).eV];exact rF.1 aF _ (List.getElem_mem ys)
theorem QF(h:bX P B w0 μ H w){elem:TypeId}{cells cells':List Value}{id:Nat}(aD:bT μ cells cells')(az:tI H elem cells=some (id,H')):
 ∃bf L,bX P B w0 bf H' (w.alloc (.cells cells'.toArray elem))/\Step μ bf H H'/\bf id=some L/\L.r=w.heap.size/\L.N=cells.length/\L.sz=P.cellsOf elem:=by
 have ai:jx P (μ.put H.ay ⟨w.heap.size,cells.length,P.cellsOf elem⟩) ⟨w.heap.size,cells.length,P.cellsOf elem⟩ (.row cells elem false 0 0 false) (.cells cells'.toArray elem):=by
  refine⟨rfl,by simp[aD.1],rfl,bF _,fun _=>rfl,fun i v v' a b=>?_,?_⟩
  ·exact(aD.2 i v v' a (by simpa using b)).mono (h.uK _)
  ·exact⟨fun off _ ab ad=>by simp at ad,fun _=>.inl rfl⟩
 obtain⟨a,b,rfl⟩:=h.made az rfl rfl ai;exact⟨_,_,a,b,bL.jP _ _ _,rfl,rfl,rfl⟩
theorem Uy(h:bX P B w0 μ H w){elem:TypeId}{v v' r:Value}(ar:bg μ v v')(he:wb H elem v=some (r,H')):
 ∃ch a5 bf,(Instr.box elem v').run P w=.ok ch a5/\bX P B w0 bf H' a5/\Step μ bf H H'/\bg bf r ch:=by
 unfold wb at he;cases ah:v.cells.toList.all eV with
 |false=>rw[ah] at he;cases he
 |true=>
  rw[ah,b4] at he;cases az:tI H elem v.cells.toList with
  |none=>rw[az] at he;cases he
  |some p=>
   obtain⟨id,H1⟩:=p;rw[az] at he;simp only[cl,dm] at he;obtain⟨rfl,rfl⟩:=he;obtain⟨bf,L,a,b,c,d,_⟩:=QF h ar.cells az;refine⟨.pointer (some ⟨w.heap.size,0,none⟩),_,bf,?_,a,b,?_⟩
   ·simp[Instr.box,newVar,newRow,newObj,Sem.run]
   ·rw[<-d];exact .ptr id 0 L c
theorem afN{s:TypeId}{p hG v:Value}{f:Nat}(ao:bg μ p hG)(he:E2 P s p f=some v)(w:World):
 ∃v',(Instr.fieldAt s hG f).run P w=.ok v' w/\bg μ v v':=by
 unfold E2 at he;cases p with
 |pointer a=>
  cases a with
  |none=>simp at he
  |some a=>
   obtain⟨id,off,L,rfl,a4,rfl⟩:=ao.oK;simp only at he;cases hu:P.underlying s with
   |none=>rw[hu] at he;cases he
   |some d=>
    rw[hu] at he;cases d with
    |struct fields=>
     simp only at he;cases aA:fields[f]? with
     |none=>rw[aA] at he;cases he
     |some fd=>
      rw[aA] at he;simp only at he;cases hs:ey P fd.type with
      |none=>rw[hs] at he;cases he
      |some n=>
       rw[hs] at he;cases n with
       |zero=>cases he
       |succ n=>
        simp only[cl] at he;subst he;refine⟨.pointer (some ⟨L.r,off+fd.offset,none⟩),?_,.ptr id _ L a4⟩;simp[Instr.fieldAt,eE hu,aA,Instr.sureAddr,fieldPlace,kk hs,Addr.qI]
    |_=>cases he
 |_=>simp at he
theorem P2{i:Int}{len n:Nat}(h:tD i len=some n):i=(n:Int)/\n<len:=by
 unfold tD at h;cases i with
 |ofNat m=>
  simp only at h;cases ai:Nat.blt m len with
  |false=>rw[ai] at h;cases h
  |true=>
   rw[ai,b4] at h;injection h with h;subst h
   exact⟨rfl,hv ai⟩
 |negSucc m=>cases h
theorem C6{i:Int}{len n:Nat}(h:qe i len=some n):i=(n:Int)/\n<=len:=by
 unfold qe at h;cases i with
 |ofNat m=>
  simp only at h;cases ai:Nat.ble m len with
  |false=>rw[ai] at h;cases h
  |true=>
   rw[ai,b4] at h;injection h with h;subst h
   exact⟨rfl,hv ai⟩
 |negSucc m=>cases h
theorem bg.qf{k:IntKind}{n:Int}{v:Value}(h:bg μ (.int k n) v):v=.int k n:=by
 cases h;rfl
theorem bg.Ev{b:Bool}{v:Value}(h:bg μ (.bool b) v):v=.bool b:=by cases h;rfl
theorem bg.Hv{s:ByteArray}{v:Value}(h:bg μ (.string s) v):v=.string s:=by cases h;rfl
theorem afO{t:TypeId}{x dv c7 WV v:Value}(U:bg μ x dv)(ak:bg μ c7 WV)(he:we P t x c7=some v)(w:World):
 ∃v',(Instr.indexAt t dv WV).run P w=.ok v' w/\bg μ v v':=by
 unfold we at he;cases c7 with
 |int k i=>
  obtain rfl:=ak.qf;simp only at he;cases hu:P.underlying t with
  |none=>rw[hu] at he;simp at he
  |some d=>
   rw[hu] at he;cases d with
   |array len elem=>
    cases x with
    |pointer a=>
     cases a with
     |none=>simp at he
     |some a=>
        obtain⟨id,off,L,rfl,a4,rfl⟩:=U.oK;simp only at he;cases az:tD i len with
        |none=>rw[az] at he;simp at he
        |some n=>
         rw[az] at he;cases hs:ey P elem with
         |none=>rw[hs] at he;simp at he
         |some sz=>
          rw[hs] at he;simp only[cl] at he;subst he;obtain⟨rfl,b9⟩:=P2 az;refine⟨.pointer (some ⟨L.r,off+n*sz,none⟩),?_,.ptr id _ L a4⟩;simp[Instr.indexAt,asIntOf,eE hu,Instr.sureAddr,kk hs,b9,Addr.qI]
    |_=>simp at he
   |slice elem=>
    cases x with
    |slice a len cap=>
     cases a with
     |none=>simp at he
     |some a=>
        have ls:a.spot=none:=by
         cases q:a.spot with
         |none=>rfl
         |some _=>simp[q] at he
        obtain⟨id,off,L,fI,dT,rfl,a4,rfl,ah,_,_⟩:=U.vq (.inl ls);simp only at he;cases az:tD i len with
        |none=>rw[az] at he;simp at he
        |some n=>
         rw[az] at he;cases hs:ey P elem with
         |none=>rw[hs] at he;simp at he
         |some sz=>
          rw[hs] at he;simp only[cl] at he;subst he;obtain⟨rfl,b9⟩:=P2 az;rw[ah (by omega)];refine⟨.pointer (some ⟨L.r,off+n*sz,none⟩),?_,.ptr id _ L a4⟩;simp[Instr.indexAt,asIntOf,eE hu,kk hs,b9,Addr.qI]
    |_=>simp at he
   |_=>simp at he
 |_=>simp at he
end
end
end Go.Cre
namespace Go.Cre
noncomputable section
open Go.RowKit
section
variable {P:Program}{B:Nat->Prop}{w0 w:World}{μ:bL}{H H':an}
def Eg(μ:bL):Option Value->Option Value->Prop
 |none,none=>True
 |some v,some v'=>bg μ v v'
 |_,_=>False
theorem run_sliceBound{k:IntKind}{n y:Nat}(h:n<=y)(code:BoundsCode)(w:World):(Instr.sliceBound (.int k (n:Int)) y code).run P w=.ok n w:=by
 have:(n:Int)<=(y:Int):=by omega
 simp[Instr.sliceBound,asIntOf,this]
theorem Ex{lo w5 ak lp:Option Value}(g':Eg μ lo w5)(kh:Eg μ ak lp){len top za h l:Nat}{C8:Bool}(cT:jW len top ak=some h)(ap:jW 0 h lo=some l)(aJ:top<=za)(w:World):
 (Instr.sliceBounds C8 len za w5 lp none).run P w=.ok (l,h,za) w/\l<=h/\(len<=za->h<=za):=by
 have ab:(ak=none/\lp=none/\h=len)\/(∃k,ak=some (.int k h)/\lp=some (.int k h)/\h<=top):=by
  cases ak with
  |none=>cases lp with
   |none=>simp[jW] at cT;exact .inl ⟨rfl,rfl,cT.symm⟩
   |some v=>exact kh.elim
  |some v=>cases lp with
   |none=>exact kh.elim
   |some v'=>
    cases v with
    |int k i=>
     obtain⟨rfl,hle⟩:=C6 (by simpa[jW] using cT);have:=bg.qf kh;subst this;exact .inr ⟨k,rfl,rfl,hle⟩
    |_=>simp[jW] at cT
 have ad:(lo=none/\w5=none/\l=0)\/(∃k,lo=some (.int k l)/\w5=some (.int k l)/\l<=h):=by
  cases lo with
  |none=>cases w5 with
   |none=>simp[jW] at ap;exact .inl ⟨rfl,rfl,ap.symm⟩
   |some v=>exact g'.elim
  |some v=>cases w5 with
   |none=>exact g'.elim
   |some v'=>
    cases v with
    |int k i=>
     obtain⟨rfl,hle⟩:=C6 (by simpa[jW] using ap);have:=bg.qf g';subst this;exact .inr ⟨k,rfl,rfl,hle⟩
    |_=>simp[jW] at ap
 rcases ab with⟨_,rfl,rfl⟩|⟨k,_,rfl,aw⟩<;>rcases ad with⟨_,rfl,rfl⟩|⟨kX,_,rfl,aR⟩
 ·exact⟨by simp[Instr.sliceBounds],by omega,by omega⟩
 ·exact⟨by simp[Instr.sliceBounds,run_sliceBound aR],by omega,by omega⟩
 ·exact⟨by simp[Instr.sliceBounds,run_sliceBound (show h<=za by omega)],by omega,by omega⟩
 ·exact⟨by simp[Instr.sliceBounds,run_sliceBound (show h<=za by omega),run_sliceBound aR],by omega,by omega⟩
theorem ME{a b:Nat}(h:a≠b):Nat.beq a b=false:=by
 cases q:Nat.beq a b
 ·rfl
 ·exact absurd (eb q) h
theorem afY(h:bX P B w0 μ H w){t:TypeId}{x dv v:Value}{lo w5 ak lp:Option Value}(U:bg μ x dv)(g':Eg μ lo w5)(kh:Eg μ ak lp)(he:jY P H t x lo ak=some v):
 ∃v',(Instr.sliceAt t dv w5 lp none).run P w=.ok v' w/\bg μ v v':=by
 unfold jY at he;cases hu:P.underlying t with
 |none=>rw[hu] at he;simp at he
 |some d=>
  rw[hu] at he;cases d with
  |array n elem=>
   cases x with
   |pointer a=>
    cases a with
    |none=>simp at he
    |some a=>
     obtain⟨id,off,L,rfl,a4,rfl⟩:=U.oK;simp only at he;cases hs:ey P elem with
     |none=>rw[hs] at he;simp at he
     |some sz=>
      rw[hs] at he;simp only at he;cases lM:Nat.blt n cG with
      |false=>rw[lM] at he;simp at he
      |true=>
      rw[lM] at he;simp only[oc,da] at he;have atc:n<cG:=hv lM;cases cT:jW n n ak with
      |none=>rw[cT] at he;simp at he
      |some CF=>
       rw[cT] at he;simp only at he;cases ap:jW 0 CF lo with
       |none=>rw[ap] at he;simp at he
       |some l=>
        rw[ap] at he;simp only[cl] at he;subst he;obtain⟨bs,bM,cB⟩:=Ex (P:=P) (C8:=false) g' kh cT ap (bF _) w;show ∃v',_/\bg μ (.slice (some (bif Nat.beq n l then _ else _)) (CF -l) (n -l)) v';by_cases dE:n=l
        ·subst dE;refine⟨.slice (some ⟨L.r,off,none⟩) (CF -n) (n -n),?_,?_⟩
         ·simp[Instr.sliceAt,eE hu,Instr.sureAddr,bs,kk hs]
         ·rw[hd n,b4];exact .nu id off (CF -n) (n -n) L a4 (by omega)
        ·refine⟨.slice (some ⟨L.r,off+l*sz,none⟩) (CF -l) (n -l),?_,?_⟩
         ·simp[Instr.sliceAt,eE hu,Instr.sureAddr,bs,kk hs,dE,Addr.qI]
         ·rw[ME dE,da];exact .nu id (off+l*sz) (CF -l) (n -l) L a4 (by omega)
   |_=>simp at he
  |slice elem=>
   cases x with
   |slice a len cap=>
    cases a with
    |none=>simp at he
    |some a=>
     have ls:a.spot=none:=by
      cases q:a.spot with
      |none=>rfl
      |some _=>simp[q] at he
     obtain⟨id,off,L,fI,dT,rfl,a4,rfl,ah,_,to⟩:=U.vq (.inl ls);simp only at he;cases hs:ey P elem with
     |none=>rw[hs] at he;simp at he
     |some sz=>
      rw[hs] at he;simp only at he;by_cases eg:cap=cG
      ·subst eg;rw[hd,b4] at he;cases hm:H.mem.get id with
       |none=>rw[hm] at he;simp at he
       |some b=>
        rw[hm] at he;cases b with
        |row cells el opn bw ef sh=>
         simp only at he;cases hR:Nat.beq el elem with
         |false=>rw[hR] at he;simp at he
         |true=>
          rw[hR] at he;simp only[oc,da] at he;have:=eb hR;subst this;obtain⟨c,f,cX,cW,eR,hH,tQ,K7,Hj⟩:=h.row a4 hm;have dF:L.sz=sz:=by rw[<-eR];exact Rz hs
          cases cT:jW len len ak with
          |none=>rw[cT] at he;simp at he
          |some g=>
           rw[cT] at he;simp only at he;cases ap:jW 0 g lo with
           |none=>rw[ap] at he;simp at he
           |some l=>
            rw[ap] at he;simp only[cl] at he;subst he;show ∃v',_/\bg μ (.slice _ (g -l) cG) v';rcases to with⟨bp,_,_⟩|⟨_,bN,rfl,cN⟩|⟨_,rfl,rfl⟩
            ·omega
            ·obtain⟨bs,bM,cB⟩:=Ex (P:=P) (C8:=true) g' kh cT ap bN w;have ax:g<=len:=by
              have:=(Ex (P:=P) (C8:=true) g' kh cT ap (bF _) w).2.2;exact this (bF _)
             by_cases JN:dT=l
             ·subst JN;refine⟨.slice (some ⟨L.r,fI,none⟩) (g -dT) (dT -dT),?_,?_⟩
              ·simp[Instr.sliceAt,Instr.slice,eE hu,bs,kk hs]
              ·have aw:g -dT=0:=by omega
               rw[aw,sR];exact .vp id _ fI L a4
             ·refine⟨.slice (some ⟨L.r,fI+l*sz,none⟩) (g -l) (dT -l),?_,?_⟩
              ·simp[Instr.sliceAt,Instr.slice,eE hu,bs,kk hs,JN,Addr.qI]
              ·refine .pE id _ _ _ L a4 (by omega) ?_;rw[dF] at cN ⊢;have:dT*sz=l*sz+(dT -l)*sz:=by rw[<-cR];congr 1;omega
               omega
            ·obtain⟨bs,bM,cB⟩:=Ex (P:=P) (C8:=true) (za:=0) g' kh cT ap (bF _) w;have:=cB (bF _);have aw:g=0:=by omega
             have aR:l=0:=by omega
             subst aw;subst aR;refine⟨.slice (some ⟨L.r,fI,none⟩) 0 0,?_,?_⟩
             ·simp[Instr.sliceAt,Instr.slice,eE hu,bs,kk hs]
             ·exact .vp id _ fI L a4
        |_=>simp at he
      ·rw[ME eg,da] at he;rcases to with⟨bp,rfl,rfl⟩|⟨q,_⟩|⟨q,_⟩
       ·cases cT:jW len dT ak with
        |none=>rw[cT] at he;simp at he
        |some g=>
         rw[cT] at he;simp only at he;cases ap:jW 0 g lo with
         |none=>rw[ap] at he;simp at he
         |some l=>
          rw[ap] at he;simp only[cl] at he;subst he;show ∃v',_/\bg μ (.slice (some (bif Nat.beq dT l then _ else _)) (g -l) (dT -l)) v';obtain⟨bs,bM,cB⟩:=Ex (P:=P) (C8:=true) g' kh cT ap (bF _) w;by_cases dE:dT=l
          ·subst dE;refine⟨.slice (some ⟨L.r,fI,none⟩) (g -dT) (dT -dT),?_,?_⟩
           ·simp[Instr.sliceAt,Instr.slice,eE hu,bs,kk hs]
           ·rw[hd,b4];exact .nu id fI _ _ L a4 (by omega)
          ·refine⟨.slice (some ⟨L.r,fI+l*sz,none⟩) (g -l) (dT -l),?_,?_⟩
           ·simp[Instr.sliceAt,Instr.slice,eE hu,bs,kk hs,dE,Addr.qI]
           ·rw[ME dE,da];exact .nu id _ _ _ L a4 (by omega)
       ·exact absurd q eg
       ·exact absurd q eg
   |_=>simp at he
  |_=>simp at he
theorem DU(z:List Value):fp z 0=[]:=by
 rcases z with _|⟨a,_|⟨b,z⟩⟩<;>rfl
theorem Bw(z:List Value)(n:Nat):fp z (n+1)=z++fp z n:=by
 rcases z with _|⟨a,_|⟨b,z⟩⟩<;>rfl
theorem Sk(z:List Value)(n:Nat):(fp z n).length=n*z.length:=by
 induction n with
 |zero=>simp[DU]
 |succ n aP=>simp[Bw,aP,oZ];omega
theorem arK(z:List Value)(n i:Nat)(h:i<n*z.length):(fp z n)[i]?=z[i % z.length]?:=by
 induction n generalizing i with
 |zero=>simp at h
 |succ n aP=>
  simp only[Bw];rw[SN];split
  ·rename_i ak;rw[nD ak]
  ·rename_i ak;rw[aP (i -z.length) (by rw[oZ] at h;omega)];congr 1
   exact(Nat.mod_eq_sub_mod (by omega)).symm
theorem HU{z:List Value}{n:Nat}{v:Value}{p:Value->Prop}(h:v∈fp z n)(ao:∀u∈z,p u):p v:=by
 induction n with
 |zero=>simp[DU] at h
 |succ m aP=>
  simp only[Bw,nB] at h;rcases h with h|h
  ·exact ao v h
  ·exact aP h
theorem ML{t:TypeId}{n:Nat}(h:uB P t=some n):∃i,P.info? t=some i/\i.bytes=n:=by
 unfold uB at h;cases ak:P.info? t with
 |none=>rw[ak] at h;cases h
 |some i=>rw[ak] at h;injection h with h;exact⟨i,rfl,h⟩
theorem HV(z:List Value)(n:Nat):(Array.range (n*z.length)).map (fun i=>(z.toArray)[i % z.toArray.size]!)=(fp z n).toArray:=by
 apply DW
 intro i;by_cases ak:i<n*z.length
 ·have aG:0<z.length:=by
   rcases il z.length with q|q
   ·rw[q] at ak;simp at ak
   ·exact q
  have hm:i % z.length<z.length:=fz _ aG;have e:(fp z n).toArray[i]?=z[i % z.length]?:=by rw[<-arK z n i ak];simp
  rw[e];simp[ak,hm]
 ·rw[sE (by simp;omega),sE (by simp[Sk];omega)]
theorem py{v:Value}(h:plain v=true):bg μ v v:=bg.ams h
theorem K2{v v':Value}(h:plain v=true)(aq:bg μ v v'):v'=v:=bg.K2 h aq
theorem bT.DH{l:List Value}(h:∀v∈l,bg μ v v):bT μ l l:=⟨rfl,fun i v v' a b=>by
 rw[a] at b;injection b with b;subst b;exact h v (gh a)⟩
theorem afS(h:bX P B w0 μ H w){t:TypeId}{l l' c c' v:Value}(ap:bg μ l l')(aD:bg μ c c')(he:E3 P H t l c=some (v,H')):
 ∃v' a5 bf,(Instr.makeSlice t l' c').run P w=.ok v' a5/\bX P B w0 bf H' a5/\Step μ bf H H'/\bg bf v v':=by
 unfold E3 at he;cases l with
 |int aU l=>
  cases c with
  |int aQ c=>
   obtain rfl:=ap.qf;obtain rfl:=aD.qf;cases hu:P.underlying t with
   |none=>rw[hu] at he;simp at he
   |some d=>
    rw[hu] at he;cases d with
    |slice elem=>
     simp only at he;cases aG:gX P elem with
     |none=>rw[aG] at he;simp at he
     |some z=>
      rw[aG] at he;cases hF:uB P elem with
      |none=>rw[hF] at he;simp at he
      |some iL=>
       rw[hF] at he;cases hs:ey P elem with
       |none=>rw[hs] at he;simp at he
       |some sz=>
        rw[hs] at he;simp only at he;cases tl:qe c 1000000 with
        |none=>rw[tl] at he;simp at he
        |some kL=>
         rw[tl] at he;cases dc:qe l 1000000 with
         |none=>rw[dc] at he;simp at he
         |some fG=>
          rw[dc] at he;simp only at he;cases wD:(Nat.ble fG kL&&Nat.ble iL 1000000&&Nat.beq z.cells.toList.length sz&&z.cells.toList.all eV&&plain z) with
          |false=>rw[wD] at he;simp at he
          |true=>
           rw[wD,b4] at he;simp only[gg] at wD;obtain⟨⟨⟨⟨aK,aH⟩,bJ⟩,dU⟩,fP⟩:=wD;have aK:=hv aK;have aH:=hv aH;have bJ:=eb bJ;obtain⟨rfl,gQ⟩:=C6 tl;obtain⟨rfl,ni⟩:=C6 dc;cases az:tI H elem (fp z.cells.toList kL) with
           |none=>rw[az] at he;simp at he
           |some p=>
            obtain⟨id,H1⟩:=p;rw[az] at he;simp only[cl,dm] at he;obtain⟨rfl,rfl⟩:=he;have sd:bT μ z.cells.toList z.cells.toList:=(py fP).cells;have wC:bT μ (fp z.cells.toList kL) (fp z.cells.toList kL):=bT.DH fun v ar=>by
                exact HU (p:=fun v=>bg μ v v) ar (fun u hu=>by
                 obtain⟨i,ak⟩:=zm.1 hu;exact sd.2 i u u ak ak)
            obtain⟨bf,L,a,b,bp,d1,_⟩:=QF h wC az;refine⟨.slice (some ⟨w.heap.size,0,none⟩) fG kL,_,bf,?_,a,b,?_⟩
            ·obtain⟨i,ak,rfl⟩:=ML hF
             have ri:i.zero=some z:=by simpa[gX,ak] using aG
             have r8:i.size=sz:=by simpa[ey,ak] using hs
             have hmul:i.bytes*kL<=1000000*1000000:=rI aH gQ;have gl:=HV z.cells.toList kL;have gG:=run_make (P:=P) w t elem i z hu ak ri aU aQ (fG:Int) (kL:Int) (by omega) (by omega) (by
                 have:(i.bytes:Int)*(kL:Int)=((i.bytes*kL:Nat):Int):=by simp
                 rw[this];omega) (by omega)
             rw[gG];simp only[h9];congr 3
             rw[<-gl];simp[madeCells,r8,<-bJ]
            ·rw[<-d1];exact .nu id 0 fG kL L bp (by have:(1000000:Nat)<cG:=by decide
                                                    omega)
    |_=>simp at he
  |_=>simp at he
 |_=>simp at he
end
end
end Go.Cre
namespace Go.Cre
noncomputable section
open Go.RowKit
section
variable {P:Program}{B:Nat->Prop}{w0 w:World}{μ:bL}{H H':an}
theorem Xj{x dv:Value}{m:Nat}(U:bg μ x dv)(hm:rk x=some m)(w:World):(Builtin.lenOf dv).run P w=.ok m w:=by
 cases x with
 |slice a len cap=>
  simp[rk] at hm;subst hm;cases a with
  |none=>rw[U.sx];simp[Builtin.lenOf]
  |some a=>obtain⟨bO,dT,rfl⟩:=U.y7;simp[Builtin.lenOf]
 |string s=>rw[U.Hv];simp[rk] at hm;subst hm;rfl
 |_=>simp[rk] at hm
theorem ac2(s:ByteArray)(n:Nat):((s.extract 0 n).data.map fun b=>Value.int .u8 b.toNat)=((s.data.toList.take n).map fun b=>Value.int .u8 b.toNat).toArray:=by
 apply qz
 simp[ByteArray.data_extract]
theorem I5(h:bX P B w0 μ H w){x dv:Value}{sz n m:Nat}{l:List Value}(U:bg μ x dv)(hm:rk x=some m)(az:n<=m)(he:jn H sz n x=some l):
 ∃l',bT μ l l'/\∀fT,(Builtin.firstCells sz n dv).run P {w with drawn:=fT}=.ok l'.toArray {w with drawn:=fT}:=by
 cases x with
 |slice a len cap=>
  simp[rk] at hm;subst hm;cases a with
  |none=>
   rw[U.sx];cases n with
   |zero=>simp[jn] at he;subst he;exact⟨[],bT.nil _,fun fT=>by simp[Builtin.firstCells]⟩
   |succ n=>simp[jn] at he
  |some a=>
   cases n with
   |zero=>
    obtain⟨bO,dT,rfl⟩:=U.y7;simp[jn] at he;subst he;exact⟨[],bT.nil _,fun fT=>by simp[Builtin.firstCells,loadCells,loadCellsFrom]⟩
   |succ n=>
    obtain⟨id,off,L,fI,dT,rfl,a4,rfl,ah,_⟩:=U.vq (.inr (.inl (by omega)));simp only[jn] at he;rw[ah (by omega)];cases q':H.mem.get id with
    |none=>rw[q'] at he;simp at he
    |some b=>
     rw[q'] at he;cases b with
     |row cells elem opn bw ef sh=>
      simp only at he;obtain⟨l',bY,bZ,cz⟩:=h.cells a4 q' he;refine⟨l',bY,fun fT=>?_⟩;exact run_firstCells_some (P:=P) {w with drawn:=fT} sz (n+1) ⟨L.r,off,none⟩ len dT l' (by rw[bZ]) (fun j v aY=>by rw[Addr.qI];exact cz j v aY)
     |_=>simp at he
 |string s=>
  rw[U.Hv];simp only[jn] at he;cases aJ:takeN n s.data.toList with
  |none=>rw[aJ] at he;simp at he
  |some kK=>
   rw[aJ] at he;simp only[cl] at he;subst he;obtain⟨aw,aR,cf⟩:=DK aJ;refine⟨kK.map fun b=>.int .u8 b.toNat,bT.DH fun v ar=>?_,fun fT=>?_⟩
   ·obtain⟨b,_,rfl⟩:=pM.1 ar;exact .atom _ rfl
   ·simp only[Builtin.firstCells,ac2,aw];rfl
 |_=>simp[rk] at hm
theorem Rp(t iD dx e:TypeId)(eM:TypeDesc)(i:TypeInfo)(z:Value)(aJ:P.underlying t=some (.slice e))(lP:P.underlying iD=some eM)(r0:∀k,eM≠.int k)(ak:P.info? e=some i)(aG:i.zero=some z)
 (base:Option Addr)(cV h4 n:Nat)(x:Value)(Yq news:List Value)(hlen:∀w,(Builtin.lenOf x).run P w=.ok n w)
 (hold:∀fT,(Builtin.firstCells i.size cV (.slice base cV h4)).run P {w with drawn:=fT}=.ok Yq.toArray {w with drawn:=fT})
 (mh:∀fT,(Builtin.firstCells i.size n x).run P {w with drawn:=fT}=.ok news.toArray {w with drawn:=fT})
 (ax:h4<cV+n) (wj:cV+n<=1000000) (hF:i.bytes<=1000000):
 (Builtin.append_ #[t,iD] dx #[.slice base cV h4,x]).run P w=
  .ok (.slice (some ⟨w.heap.size,0,none⟩) (cV+n) (grownCap w (cV+n) h4 e))
   (w.drew.alloc (.cells (Yq.toArray++(news.toArray++Builtin.zeroCells z.cells (grownCap w (cV+n) h4 e -(cV+n)))) e)):=by
 have az:¬(cV+n<=h4):=by omega
 have aha:¬(9223372036854775807<((cV:Int)+(n:Int))):=by omega
 have hmul:(cV+n)*i.bytes<=1000000*1000000:=rI wj hF
 have ag':¬(281474976710656<Builtin.nextslicecap (cV+n) h4*i.bytes):=by
  have:=growslice_fits (bytes:=i.bytes) ax (by omega);omega
 have ah:=hold (w.drawn+1);have hw:=mh (w.drawn+1);have o6:({w with drawn:=w.drawn+1}:World)=w.drew:=rfl;rw[o6] at ah hw;simp[Builtin.append_,run_underlying aJ,run_underlying lP,sizeOf,typeInfo,zeroValue,ak,aG,hlen,az,aha,ag',Question.forced,hw,ah,newRow,grownCap]
theorem Lc(t iD dx e:TypeId)(eM:TypeDesc)(i:TypeInfo)(aJ:P.underlying t=some (.slice e))(lP:P.underlying iD=some eM)(r0:∀k,eM≠.int k)(ak:P.info? e=some i)
 (base:Option Addr)(cV h4 n:Nat)(x:Value)(news:List Value)(a5:World)(hlen:∀w,(Builtin.lenOf x).run P w=.ok n w)
 (mh:(Builtin.firstCells i.size n x).run P w=.ok news.toArray w)(ax:cV+n<=h4)
 (dn:∀a,base=some a->(storeCells (a.add (cV*i.size)) news).run P w=.ok () a5)(gr:base=none->a5=w):
 (Builtin.append_ #[t,iD] dx #[.slice base cV h4,x]).run P w=.ok (.slice base (cV+n) h4) a5:=by
 cases base with
 |none=>
  rw[gr rfl];simp[Builtin.append_,run_underlying aJ,run_underlying lP,sizeOf,typeInfo,ak,hlen,ax,mh]
 |some a=>
  have:=dn a rfl;simp[Builtin.append_,run_underlying aJ,run_underlying lP,sizeOf,typeInfo,ak,hlen,ax,mh,this]
end
end
end Go.Cre

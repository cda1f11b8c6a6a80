/- A part of the proof of TableLosses. -/
import Derived.Test.YtjbbbehaciogcaaGreatDoorCac
import Derived.Laws.MakeOwn
set_option linter.unusedVariables false
set_option linter.unusedSimpArgs false
namespace Go.Cre
noncomputable section
open Go.RowKit
section
variable {P:Program}{B:Nat->Prop}{w0 w:World}{μ:bY}{H H':ar}
theorem bj.pu{a:Addr}{v:Value}(h:bj μ (.pointer (some a)) v):∃id off L,a=⟨id,off,none⟩/\μ id=some L/\v=.pointer (some ⟨L.r,off,none⟩):=by
 cases h with
 |atom _ h=>simp[isAtom] at h
 |ptr id off L a9=>exact⟨id,off,L,rfl,a9,rfl⟩
theorem bj.AE{a:Addr}{len cap:Nat}{v:Value}(h:bj μ (.slice (some a) len cap) v):∃b0 ek,v=.slice (some b0) len ek:=by
 cases h with
 |atom _ h=>simp[isAtom] at h
 |oc id off len cap L a9 aC=>exact⟨_,_,rfl⟩
 |qA id off len cap L a9 aC jy=>exact⟨_,_,rfl⟩
 |wV id off gw L a9=>exact⟨_,_,rfl⟩
 |y2 a=>exact⟨_,_,rfl⟩
theorem bj.auJ{a:Addr}{len cap:Nat}{v:Value}(h:bj μ (.slice (some a) len cap) v)(aC:cap≠cO):∃b0,v=.slice (some b0) len cap:=by
 cases h with
 |atom _ h=>simp[isAtom] at h
 |oc id off len cap L a9 aC=>exact⟨_,rfl⟩
 |qA id off len cap L a9 aC jy=>exact absurd rfl aC
 |wV id off gw L a9=>exact absurd rfl aC
 |y2 a=>exact⟨_,rfl⟩
theorem bj.wW{a:Addr}{len cap:Nat}{v:Value}(h:bj μ (.slice (some a) len cap) v)(hs:a.spot=none\/0<len\/0<cap):
 ∃id off L gw ek,a=⟨id,off,none⟩/\μ id=some L/\v=.slice (some ⟨L.r,gw,none⟩) len ek/\(0<len->gw=off)/\len<=max len ek/\
  ((cap<cO/\ek=cap/\gw=off)\/(cap=cO/\len<=ek/\gw=off/\off+ek*L.sz<=L.N)\/(cap=cO/\len=0/\ek=0)):=by
 cases h with
 |atom _ h=>simp[isAtom] at h
 |oc id off len cap L a9 aC=>exact⟨id,off,L,off,cap,rfl,a9,rfl,fun _=>rfl,by omega,.inl ⟨aC,rfl,rfl⟩⟩
 |qA id off len cap L a9 aC jy=>exact⟨id,off,L,off,cap,rfl,a9,rfl,fun _=>rfl,by omega,.inr (.inl ⟨rfl,aC,rfl,jy⟩)⟩
 |wV id off gw L a9=>exact⟨id,off,L,gw,0,rfl,a9,rfl,fun h=>absurd h (by omega),by omega,.inr (.inr ⟨rfl,rfl,rfl⟩)⟩
 |y2 a=>rcases hs with q|q|q<;>cases q
theorem bj.to{len cap:Nat}{v:Value}(h:bj μ (.slice none len cap) v):v=.slice none len cap:=by cases h;rfl
theorem bj.FN{v:Value}(h:bj μ (.pointer none) v):v=.pointer none:=by cases h;rfl
theorem bj.Jb{r:Nat}{v:Value}(h:bj μ (.map (some r)) v):∃L,μ r=some L/\v=.map (some L.r):=by
 cases h with
 |atom _ h=>simp[isAtom] at h
 |map id L a9=>exact⟨L,a9,rfl⟩
theorem bj.Jd{v:Value}(h:bj μ (.map none) v):v=.map none:=by cases h;rfl
theorem bj.yq{t:TypeId}{x v:Value}(h:bj μ (.iface t x) v):∃dV,v=.iface t dV/\bj μ x dV:=by
 cases h with
 |atom _ h=>simp[isAtom] at h
 |iface t v v' h=>exact⟨v',rfl,h⟩
theorem bj.Jl{v:Value}(h:bj μ .nilIface v):v=.nilIface:=by cases h;rfl
theorem bj.Nf{v:Value}(h:bj μ .nilFunc v):v=.nilFunc:=by cases h;rfl
theorem k7{t:TypeId}{n:Nat}(h:eV P t=some n)(w:World):(sizeOf t).run P w=.ok n w:=by
 unfold eV at h;cases ak:P.info? t with
 |none=>rw[ak] at h;cases h
 |some i=>rw[ak] at h;injection h with h;subst h;simp[sizeOf,typeInfo,ak]
theorem UR{t:TypeId}{n:Nat}(h:eV P t=some n):P.cellsOf t=n:=by
 unfold eV at h;cases ak:P.info? t with
 |none=>rw[ak] at h;cases h
 |some i=>rw[ak] at h;injection h with h;subst h;simp[Program.cellsOf,ak]
theorem w3{t:TypeId}{z:Value}(h:hA P t=some z)(w:World):(zeroValue t).run P w=.ok z w:=by
 unfold hA at h;cases ak:P.info? t with
 |none=>rw[ak] at h;cases h
 |some i=>rw[ak] at h;simp only at h;simp[zeroValue,typeInfo,ak,h]
theorem e2{t:TypeId}{d:TypeDesc}(h:P.underlying t=some d)(w:World):(underlying t).run P w=.ok d w:=by
 simp[underlying,h]
theorem WL{t:TypeId}{n:Nat}(h:sB P t=some (some n)):(∀w,(isAgg t).run P w=.ok true w)/\eV P t=some n:=by
 unfold sB at h;cases ak:P.info? t with
 |none=>rw[ak] at h;cases h
 |some i=>
  rw[ak] at h;simp only at h;refine⟨fun w=>?_,?_⟩
  ·cases hu:P.underlying t with
   |none=>rw[hu] at h;cases h
   |some d=>rw[hu] at h;cases d<;>first|(simp[isAgg,underlying,hu];done)|(simp at h)
  ·cases hu:P.underlying t with
   |none=>rw[hu] at h;cases h
   |some d=>rw[hu] at h;cases d<;>first|(simp at h;simp[eV,ak,h];done)|(simp at h)
theorem WK{t:TypeId}(h:sB P t=some none):∀w,(isAgg t).run P w=.ok false w:=by
 unfold sB at h;cases ak:P.info? t with
 |none=>rw[ak] at h;cases h
 |some i=>
  rw[ak] at h;simp only at h;intro w;cases hu:P.underlying t with
  |none=>rw[hu] at h;cases h
  |some d=>rw[hu] at h;cases d<;>first|(simp[isAgg,underlying,hu];done)|(simp at h)
theorem X7{t:TypeId}{cs cG:List Value}{off:Nat}{v:Value}(ao:b3 μ cs cG)(he:nn P t cs off=some v)(w:World):
 ∃v',(part t cG.toArray off).run P w=.ok v' w/\bj μ v v':=by
 unfold nn at he;cases aF:sB P t with
 |none=>rw[aF] at he;cases he
 |some q=>
  rw[aF] at he;cases q with
  |none=>
   simp only[lT] at he;obtain⟨v',ad,ae⟩:=ao.get he;refine⟨v',?_,ae⟩;simp[part,WK aF,ad]
  |some n=>
   simp only[xO] at he;obtain⟨ad,ae⟩:=WL aF;cases aI:takeN n (cs.drop off) with
   |none=>rw[aI] at he;cases he
   |some l=>
    rw[aI] at he;injection he with he;subst he
    obtain⟨ax,aS,cl⟩:=F0 aI;refine⟨.agg ((cG.drop off).take n).toArray,?_,?_⟩
    ·simp[part,ad,k7 ae]
    ·rw[ax];exact bj.GC ((ao.drop off).take n)
theorem b8.row(h:b8 P B w0 μ H w){id:Nat}{L:Loc}{cells:List Value}{elem:TypeId}{opn:Bool}{bF d':Nat}{sh:Bool}(a9:μ id=some L)(hm:H.mem.get id=some (.row cells elem opn bF d' sh)):
 ∃c f,w.heap[L.r]?=some (.cells c elem f)/\c.size=L.N/\P.cellsOf elem=L.sz/\cells.length<=L.N/\(opn=false->cells.length=L.N)/\b3 μ cells (c.toList.take cells.length)/\Q1 L.N d' sh f:=by
 obtain⟨b,o,aL,aG,bt⟩:=h.gC id L a9;rw[hm] at aL;injection aL with aL;subst aL
 cases o with
 |cells c e f=>
  obtain⟨rfl,c2,fp,ij,uV,NP,JQ⟩:=bt;refine⟨c,f,aG,c2,fp,ij,uV,⟨by simp;omega,fun i v v' a b=>?_⟩,JQ⟩;rw[jY] at b;split at b
  ·exact NP i v v' a (by simpa using b)
  ·cases b
 |_=>exact bt.elim
theorem b8.map(h:b8 P B w0 μ H w){id:Nat}{L:Loc}{es:List MapEntry}{clock:Nat}(a9:μ id=some L)(hm:H.mem.get id=some (.map es clock)):
 ∃m1 Lw,w.heap[L.r]?=some (.map m1 Lw)/\AV μ es m1.toList:=by
 obtain⟨b,o,aL,aG,bt⟩:=h.gC id L a9;rw[hm] at aL;injection aL with aL;subst aL
 cases o with
 |map m1 c'=>exact⟨m1,c',aG,bt⟩
 |_=>exact bt.elim
theorem b8.cells(h:b8 P B w0 μ H w){id:Nat}{L:Loc}{cells:List Value}{elem:TypeId}{opn:Bool}{bF d':Nat}{sh:Bool}(a9:μ id=some L)(hm:H.mem.get id=some (.row cells elem opn bF d' sh))
 {off n:Nat}{l:List Value}(aI:takeN n (pY off cells)=some l):∃l',b3 μ l l'/\l'.length=n/\(∀j v,l'[j]?=some v->w.cell? ⟨L.r,off+j,none⟩=some v):=by
 obtain⟨c,f,ad,ae,aD,a6,eM,fH,oC⟩:=h.row a9 hm;obtain⟨ax,aS,cl⟩:=F0 aI;rw[xO] at ax cl;refine⟨((c.toList.take cells.length).drop off).take n,?_,?_,?_⟩
 ·rw[ax];exact(fH.drop off).take n
 ·have:=((fH.drop off).take n).1;rw[<-ax,aS] at this;exact this.symm
 ·intro j v aX;rw[jY] at aX;split at aX
  ·rw[o0,jY] at aX;split at aX
   ·rw[cell_of_row ad];simpa using aX
   ·cases aX
  ·cases aX
theorem X4(h:b8 P B w0 μ H w){t:TypeId}{id off:Nat}{L:Loc}{v:Value}(a9:μ id=some L)(he:Ek P H t ⟨id,off,none⟩=some v):
 ∃v',(loadVar t ⟨L.r,off,none⟩).run P w=.ok v' w/\bj μ v v':=by
 simp only[Ek] at he;cases hm:H.mem.get id with
 |none=>rw[hm] at he;cases he
 |some b=>
  rw[hm] at he;cases b with
  |row cells elem opn bF d' sh=>
   simp only at he;unfold nn at he;cases aF:sB P t with
   |none=>rw[aF] at he;cases he
   |some q=>
    rw[aF] at he;cases q with
    |none=>
     simp only[lT] at he;obtain⟨c,f,ad,ae,aD,a6,eM,fH,oC⟩:=h.row a9 hm;obtain⟨v',b4,bZ⟩:=fH.get he;refine⟨v',?_,bZ⟩;rw[jY] at b4;split at b4
     ·have:w.cell? ⟨L.r,off,none⟩=some v':=by rw[cell_of_row ad];simpa using b4
      simp[loadVar,WK aF,load,Sem.run,this]
     ·cases b4
    |some n=>
     obtain⟨ad,ae⟩:=WL aF;simp only at he;cases aI:takeN n (pY off cells) with
     |none=>rw[aI] at he;cases he
     |some l=>
      rw[aI] at he;injection he with he;subst he
      obtain⟨l',b4,bZ,cH⟩:=h.cells a9 hm aI;refine⟨.agg l'.toArray,?_,bj.GC b4⟩;have:=run_loadCells_list (P:=P) w ⟨L.r,off,none⟩ l' (fun j v aX=>by rw[Addr.rG];exact cH j v aX);rw[bZ] at this;simp[loadVar,ad,k7 ae,this]
  |_=>cases he
theorem akn(h:b8 P B w0 μ H w){t:TypeId}{p ic v:Value}(aw:bj μ p ic)(he:Bw P H t p=some v):
 ∃v',(Instr.loadAt t ic).run P w=.ok v' w/\bj μ v v':=by
 unfold Bw at he;cases p with
 |pointer a=>
  cases a with
  |none=>simp at he
  |some a=>
   obtain⟨id,off,L,rfl,a9,rfl⟩:=aw.pu;simp only at he;obtain⟨v',ad,ae⟩:=X4 h a9 he;exact⟨v',by simp[Instr.loadAt,Instr.sureAddr,ad],ae⟩
 |_=>simp at he
theorem akv(h:b8 P B w0 μ H w){t:TypeId}{p ic v v':Value}(aw:bj μ p ic)(av:bj μ v v')(he:By P H t p v=some H'):
 ∃a8,(Instr.storeAt t ic v').run P w=.ok () a8/\b8 P B w0 μ H' a8/\Step μ μ H H':=by
 unfold By at he;cases p with
 |pointer a=>
  cases a with
  |none=>simp at he
  |some a=>
   obtain⟨id,off,L,rfl,a9,rfl⟩:=aw.pu;simp only at he;cases hs:eV P t with
   |none=>rw[hs] at he;cases he
   |some n=>
    rw[hs] at he;simp only at he;cases ai:Nat.beq v.cells.toList.length n with
    |false=>rw[ai] at he;cases he
    |true=>
     rw[ai,cd] at he;obtain⟨a8,ad,ae,aD⟩:=LH h a9 av.cells he;have aE:=ez ai;have aq:=av.cells.1;refine⟨a8,?_,ae,aD⟩;have eb:v'.cells.size=n:=by simp at aq aE;omega
     simp[Instr.storeAt,Instr.sureAddr,storeVar,k7 hs,eb,ad]
 |_=>simp at he
theorem agB{l l':List Value}(h:b3 μ l l')(aF:l.all fh=true):∀v∈l',fh v=true:=fun v av=>by
 obtain⟨i,ak⟩:=xa.1 av;have rU:i<l.length:=by have:=(ff.1 ak).1;have:=h.1;omega
 rw[(h.2 i l[i] v (ey rU) ak).fh];exact rA.1 aF _ (List.getElem_mem rU)
theorem TW(h:b8 P B w0 μ H w){elem:TypeId}{cells cells':List Value}{id:Nat}(aC:b3 μ cells cells')(aE:uN H elem cells=some (id,H')):
 ∃bh L,b8 P B w0 bh H' (w.alloc (.cells cells'.toArray elem))/\Step μ bh H H'/\bh id=some L/\L.r=w.heap.size/\L.N=cells.length/\L.sz=P.cellsOf elem:=by
 have ai:kf P (μ.put H.an ⟨w.heap.size,cells.length,P.cellsOf elem⟩) ⟨w.heap.size,cells.length,P.cellsOf elem⟩ (.row cells elem false 0 0 false) (.cells cells'.toArray elem):=by
  refine⟨rfl,by simp[aC.1],rfl,bU _,fun _=>rfl,fun i v v' a b=>?_,?_⟩
  ·exact(aC.2 i v v' a (by simpa using b)).mono (h.vV _)
  ·exact⟨fun off _ ad ae=>by simp at ae,fun _=>.inl rfl⟩
 obtain⟨a,b,rfl⟩:=h.made aE rfl rfl ai;exact⟨_,_,a,b,bY.kw _ _ _,rfl,rfl,rfl⟩
theorem X1(h:b8 P B w0 μ H w){elem:TypeId}{v v' r:Value}(av:bj μ v v')(he:xR H elem v=some (r,H')):
 ∃cv a8 bh,(Instr.box elem v').run P w=.ok cv a8/\b8 P B w0 bh H' a8/\Step μ bh H H'/\bj bh r cv:=by
 unfold xR at he;cases ah:v.cells.toList.all fh with
 |false=>rw[ah] at he;cases he
 |true=>
  rw[ah,cd] at he;cases aE:uN H elem v.cells.toList with
  |none=>rw[aE] at he;cases he
  |some p=>
   obtain⟨id,H1⟩:=p;rw[aE] at he;simp only[cn,dr] at he;obtain⟨rfl,rfl⟩:=he;obtain⟨bh,L,a,b,c,d,_⟩:=TW h av.cells aE;refine⟨.pointer (some ⟨w.heap.size,0,none⟩),_,bh,?_,a,b,?_⟩
   ·simp[Instr.box,newVar,newRow,newObj,Sem.run]
   ·rw[<-d];exact .ptr id 0 L c
theorem akj{s:TypeId}{p ic v:Value}{f:Nat}(aw:bj μ p ic)(he:Ht P s p f=some v)(w:World):
 ∃v',(Instr.fieldAt s ic f).run P w=.ok v' w/\bj μ v v':=by
 unfold Ht at he;cases p with
 |pointer a=>
  cases a with
  |none=>simp at he
  |some a=>
   obtain⟨id,off,L,rfl,a9,rfl⟩:=aw.pu;simp only at he;cases hu:P.underlying s with
   |none=>rw[hu] at he;cases he
   |some d=>
    rw[hu] at he;cases d with
    |struct fields=>
     simp only at he;cases aA:fields[f]? with
     |none=>rw[aA] at he;cases he
     |some fd=>
      rw[aA] at he;simp only at he;cases hs:eV P fd.type with
      |none=>rw[hs] at he;cases he
      |some n=>
       rw[hs] at he;cases n with
       |zero=>cases he
       |succ n=>
        simp only[cn] at he;subst he;refine⟨.pointer (some ⟨L.r,off+fd.offset,none⟩),?_,.ptr id _ L a9⟩;simp[Instr.fieldAt,e2 hu,aA,Instr.sureAddr,fieldPlace,k7 hs,Addr.rG]
    |_=>cases he
 |_=>simp at he
theorem Ti{i:Int}{len n:Nat}(h:uI i len=some n):i=(n:Int)/\n<len:=by
 unfold uI at h;cases i with
 |ofNat m=>
  simp only at h;cases ai:Nat.blt m len with
  |false=>rw[ai] at h;cases h
  |true=>
   rw[ai,cd] at h;injection h with h;subst h
   exact⟨rfl,h3 ai⟩
 |negSucc m=>cases h
theorem Fe{i:Int}{len n:Nat}(h:ra i len=some n):i=(n:Int)/\n<=len:=by
 unfold ra at h;cases i with
 |ofNat m=>
  simp only at h;cases ai:Nat.ble m len with
  |false=>rw[ai] at h;cases h
  |true=>
   rw[ai,cd] at h;injection h with h;subst h
   exact⟨rfl,h3 ai⟩
 |negSucc m=>cases h
theorem bj.rb{k:IntKind}{n:Int}{v:Value}(h:bj μ (.int k n) v):v=.int k n:=by
 cases h;rfl
theorem bj.GN{b:Bool}{v:Value}(h:bj μ (.bool b) v):v=.bool b:=by cases h;rfl
theorem bj.J0{s:ByteArray}{v:Value}(h:bj μ (.string s) v):v=.string s:=by cases h;rfl
theorem akk{t:TypeId}{x dV dz aav v:Value}(aa:bj μ x dV)(ak:bj μ dz aav)(he:xU P t x dz=some v)(w:World):
 ∃v',(Instr.indexAt t dV aav).run P w=.ok v' w/\bj μ v v':=by
 unfold xU at he;cases dz with
 |int k i=>
  obtain rfl:=ak.rb;simp only at he;cases hu:P.underlying t with
  |none=>rw[hu] at he;simp at he
  |some d=>
   rw[hu] at he;cases d with
   |array len elem=>
    cases x with
    |pointer a=>
     cases a with
     |none=>simp at he
     |some a=>
        obtain⟨id,off,L,rfl,a9,rfl⟩:=aa.pu;simp only at he;cases aE:uI i len with
        |none=>rw[aE] at he;simp at he
        |some n=>
         rw[aE] at he;cases hs:eV P elem with
         |none=>rw[hs] at he;simp at he
         |some sz=>
          rw[hs] at he;simp only[cn] at he;subst he;obtain⟨rfl,cD⟩:=Ti aE;refine⟨.pointer (some ⟨L.r,off+n*sz,none⟩),?_,.ptr id _ L a9⟩;simp[Instr.indexAt,asIntOf,e2 hu,Instr.sureAddr,k7 hs,cD,Addr.rG]
    |_=>simp at he
   |slice elem=>
    cases x with
    |slice a len cap=>
     cases a with
     |none=>simp at he
     |some a=>
        have qg:a.spot=none:=by
         cases q:a.spot with
         |none=>rfl
         |some _=>simp[q] at he
        obtain⟨id,off,L,gw,ek,rfl,a9,rfl,ah,_,_⟩:=aa.wW (.inl qg);simp only at he;cases aE:uI i len with
        |none=>rw[aE] at he;simp at he
        |some n=>
         rw[aE] at he;cases hs:eV P elem with
         |none=>rw[hs] at he;simp at he
         |some sz=>
          rw[hs] at he;simp only[cn] at he;subst he;obtain⟨rfl,cD⟩:=Ti aE;rw[ah (by omega)];refine⟨.pointer (some ⟨L.r,off+n*sz,none⟩),?_,.ptr id _ L a9⟩;simp[Instr.indexAt,asIntOf,e2 hu,k7 hs,cD,Addr.rG]
    |_=>simp at he
   |_=>simp at he
 |_=>simp at he
end
end
end Go.Cre
namespace Go.Cre
noncomputable section
open Go.RowKit
section
variable {P:Program}{B:Nat->Prop}{w0 w:World}{μ:bY}{H H':ar}
def Gw(μ:bY):Option Value->Option Value->Prop
 |none,none=>True
 |some v,some v'=>bj μ v v'
 |_,_=>False
theorem run_sliceBound{k:IntKind}{n y:Nat}(h:n<=y)(code:BoundsCode)(w:World):(Instr.sliceBound (.int k (n:Int)) y code).run P w=.ok n w:=by
 have:(n:Int)<=(y:Int):=by omega
 simp[Instr.sliceBound,asIntOf,this]
theorem GP{lo yB ak lk:Option Value}(hQ:Gw μ lo yB)(lO:Gw μ ak lk){len top AI h l:Nat}{Fg:Bool}(dh:kU len top ak=some h)(aq:kU 0 h lo=some l)(aI:top<=AI)(w:World):
 (Instr.sliceBounds Fg len AI yB lk none).run P w=.ok (l,h,AI) w/\l<=h/\(len<=AI->h<=AI):=by
 have ad:(ak=none/\lk=none/\h=len)\/(∃k,ak=some (.int k h)/\lk=some (.int k h)/\h<=top):=by
  cases ak with
  |none=>cases lk with
   |none=>simp[kU] at dh;exact .inl ⟨rfl,rfl,dh.symm⟩
   |some v=>exact lO.elim
  |some v=>cases lk with
   |none=>exact lO.elim
   |some v'=>
    cases v with
    |int k i=>
     obtain⟨rfl,hle⟩:=Fe (by simpa[kU] using dh);have:=bj.rb lO;subst this;exact .inr ⟨k,rfl,rfl,hle⟩
    |_=>simp[kU] at dh
 have ae:(lo=none/\yB=none/\l=0)\/(∃k,lo=some (.int k l)/\yB=some (.int k l)/\l<=h):=by
  cases lo with
  |none=>cases yB with
   |none=>simp[kU] at aq;exact .inl ⟨rfl,rfl,aq.symm⟩
   |some v=>exact hQ.elim
  |some v=>cases yB with
   |none=>exact hQ.elim
   |some v'=>
    cases v with
    |int k i=>
     obtain⟨rfl,hle⟩:=Fe (by simpa[kU] using aq);have:=bj.rb hQ;subst this;exact .inr ⟨k,rfl,rfl,hle⟩
    |_=>simp[kU] at aq
 rcases ad with⟨_,rfl,rfl⟩|⟨k,_,rfl,ax⟩<;>rcases ae with⟨_,rfl,rfl⟩|⟨lQ,_,rfl,aS⟩
 ·exact⟨by simp[Instr.sliceBounds],by omega,by omega⟩
 ·exact⟨by simp[Instr.sliceBounds,run_sliceBound aS],by omega,by omega⟩
 ·exact⟨by simp[Instr.sliceBounds,run_sliceBound (show h<=AI by omega)],by omega,by omega⟩
 ·exact⟨by simp[Instr.sliceBounds,run_sliceBound (show h<=AI by omega),run_sliceBound aS],by omega,by omega⟩
theorem PM{a b:Nat}(h:a≠b):Nat.beq a b=false:=by
 cases q:Nat.beq a b
 ·rfl
 ·exact absurd (ez q) h
theorem aku(h:b8 P B w0 μ H w){t:TypeId}{x dV v:Value}{lo yB ak lk:Option Value}(aa:bj μ x dV)(hQ:Gw μ lo yB)(lO:Gw μ ak lk)(he:lc P H t x lo ak=some v):
 ∃v',(Instr.sliceAt t dV yB lk none).run P w=.ok v' w/\bj μ v v':=by
 unfold lc at he;cases hu:P.underlying t with
 |none=>rw[hu] at he;simp at he
 |some d=>
  rw[hu] at he;cases d with
  |array n elem=>
   cases x with
   |pointer a=>
    cases a with
    |none=>simp at he
    |some a=>
     obtain⟨id,off,L,rfl,a9,rfl⟩:=aa.pu;simp only at he;cases hs:eV P elem with
     |none=>rw[hs] at he;simp at he
     |some sz=>
      rw[hs] at he;simp only at he;cases pd:Nat.blt n cO with
      |false=>rw[pd] at he;simp at he
      |true=>
      rw[pd] at he;simp only[nM,dK] at he;have aze:n<cO:=h3 pd;cases dh:kU n n ak with
      |none=>rw[dh] at he;simp at he
      |some EO=>
       rw[dh] at he;simp only at he;cases aq:kU 0 EO lo with
       |none=>rw[aq] at he;simp at he
       |some l=>
        rw[aq] at he;simp only[cn] at he;subst he;obtain⟨a',bf,bV⟩:=GP (P:=P) (Fg:=false) hQ lO dh aq (bU _) w;show ∃v',_/\bj μ (.slice (some (bif Nat.beq n l then _ else _)) (EO -l) (n -l)) v';by_cases dT:n=l
        ·subst dT;refine⟨.slice (some ⟨L.r,off,none⟩) (EO -n) (n -n),?_,?_⟩
         ·simp[Instr.sliceAt,e2 hu,Instr.sureAddr,a',k7 hs]
         ·rw[hT n,cd];exact .oc id off (EO -n) (n -n) L a9 (by omega)
        ·refine⟨.slice (some ⟨L.r,off+l*sz,none⟩) (EO -l) (n -l),?_,?_⟩
         ·simp[Instr.sliceAt,e2 hu,Instr.sureAddr,a',k7 hs,dT,Addr.rG]
         ·rw[PM dT,dK];exact .oc id (off+l*sz) (EO -l) (n -l) L a9 (by omega)
   |_=>simp at he
  |slice elem=>
   cases x with
   |slice a len cap=>
    cases a with
    |none=>simp at he
    |some a=>
     have qg:a.spot=none:=by
      cases q:a.spot with
      |none=>rfl
      |some _=>simp[q] at he
     obtain⟨id,off,L,gw,ek,rfl,a9,rfl,ah,_,uo⟩:=aa.wW (.inl qg);simp only at he;cases hs:eV P elem with
     |none=>rw[hs] at he;simp at he
     |some sz=>
      rw[hs] at he;simp only at he;by_cases eu:cap=cO
      ·subst eu;rw[hT,cd] at he;cases hm:H.mem.get id with
       |none=>rw[hm] at he;simp at he
       |some b=>
        rw[hm] at he;cases b with
        |row cells el opn bF d' sh=>
         simp only at he;cases hf:Nat.beq el elem with
         |false=>rw[hf] at he;simp at he
         |true=>
          rw[hf] at he;simp only[nM,dK] at he;have:=ez hf;subst this;obtain⟨c,f,dq,c2,fp,ij,uV,NP,JQ⟩:=h.row a9 hm;have eb:L.sz=sz:=by rw[<-fp];exact UR hs
          cases dh:kU len len ak with
          |none=>rw[dh] at he;simp at he
          |some g=>
           rw[dh] at he;simp only at he;cases aq:kU 0 g lo with
           |none=>rw[aq] at he;simp at he
           |some l=>
            rw[aq] at he;simp only[cn] at he;subst he;show ∃v',_/\bj μ (.slice _ (g -l) cO) v';rcases uo with⟨bb,_,_⟩|⟨_,br,rfl,cc⟩|⟨_,rfl,rfl⟩
            ·omega
            ·obtain⟨a',bf,bV⟩:=GP (P:=P) (Fg:=true) hQ lO dh aq br w;have ay:g<=len:=by
              have:=(GP (P:=P) (Fg:=true) hQ lO dh aq (bU _) w).2.2;exact this (bU _)
             by_cases ER:ek=l
             ·subst ER;refine⟨.slice (some ⟨L.r,gw,none⟩) (g -ek) (ek -ek),?_,?_⟩
              ·simp[Instr.sliceAt,Instr.slice,e2 hu,a',k7 hs]
              ·have ax:g -ek=0:=by omega
               rw[ax,zq];exact .wV id _ gw L a9
             ·refine⟨.slice (some ⟨L.r,gw+l*sz,none⟩) (g -l) (ek -l),?_,?_⟩
              ·simp[Instr.sliceAt,Instr.slice,e2 hu,a',k7 hs,ER,Addr.rG]
              ·refine .qA id _ _ _ L a9 (by omega) ?_;rw[eb] at cc ⊢;have:ek*sz=l*sz+(ek -l)*sz:=by rw[<-c6];congr 1;omega
               omega
            ·obtain⟨a',bf,bV⟩:=GP (P:=P) (Fg:=true) (AI:=0) hQ lO dh aq (bU _) w;have:=bV (bU _);have ax:g=0:=by omega
             have aS:l=0:=by omega
             subst ax;subst aS;refine⟨.slice (some ⟨L.r,gw,none⟩) 0 0,?_,?_⟩
             ·simp[Instr.sliceAt,Instr.slice,e2 hu,a',k7 hs]
             ·exact .wV id _ gw L a9
        |_=>simp at he
      ·rw[PM eu,dK] at he;rcases uo with⟨bb,rfl,rfl⟩|⟨q,_⟩|⟨q,_⟩
       ·cases dh:kU len ek ak with
        |none=>rw[dh] at he;simp at he
        |some g=>
         rw[dh] at he;simp only at he;cases aq:kU 0 g lo with
         |none=>rw[aq] at he;simp at he
         |some l=>
          rw[aq] at he;simp only[cn] at he;subst he;show ∃v',_/\bj μ (.slice (some (bif Nat.beq ek l then _ else _)) (g -l) (ek -l)) v';obtain⟨a',bf,bV⟩:=GP (P:=P) (Fg:=true) hQ lO dh aq (bU _) w;by_cases dT:ek=l
          ·subst dT;refine⟨.slice (some ⟨L.r,gw,none⟩) (g -ek) (ek -ek),?_,?_⟩
           ·simp[Instr.sliceAt,Instr.slice,e2 hu,a',k7 hs]
           ·rw[hT,cd];exact .oc id gw _ _ L a9 (by omega)
          ·refine⟨.slice (some ⟨L.r,gw+l*sz,none⟩) (g -l) (ek -l),?_,?_⟩
           ·simp[Instr.sliceAt,Instr.slice,e2 hu,a',k7 hs,dT,Addr.rG]
           ·rw[PM dT,dK];exact .oc id _ _ _ L a9 (by omega)
       ·exact absurd q eu
       ·exact absurd q eu
   |_=>simp at he
  |_=>simp at he
theorem Ks(z:List Value):fM z 0=[]:=by
 rcases z with _|⟨a,_|⟨b,z⟩⟩<;>rfl
theorem AS(z:List Value)(n:Nat):fM z (n+1)=z++fM z n:=by
 rcases z with _|⟨a,_|⟨b,z⟩⟩<;>rfl
theorem Vz(z:List Value)(n:Nat):(fM z n).length=n*z.length:=by
 induction n with
 |zero=>simp[Ks]
 |succ n aP=>simp[AS,aP,o2];omega
theorem axs(z:List Value)(n i:Nat)(h:i<n*z.length):(fM z n)[i]?=z[i % z.length]?:=by
 induction n generalizing i with
 |zero=>simp at h
 |succ n aP=>
  simp only[AS];rw[V3];split
  ·rename_i ak;rw[sw ak]
  ·rename_i ak;rw[aP (i -z.length) (by rw[o2] at h;omega)];congr 1
   exact(Nat.mod_eq_sub_mod (by omega)).symm
theorem Kr{z:List Value}{n:Nat}{v:Value}{p:Value->Prop}(h:v∈fM z n)(aw:∀u∈z,p u):p v:=by
 induction n with
 |zero=>simp[Ks] at h
 |succ m aP=>
  simp only[AS,nh] at h;rcases h with h|h
  ·exact aw v h
  ·exact aP h
theorem PW{t:TypeId}{n:Nat}(h:vF P t=some n):∃i,P.info? t=some i/\i.bytes=n:=by
 unfold vF at h;cases ak:P.info? t with
 |none=>rw[ak] at h;cases h
 |some i=>rw[ak] at h;injection h with h;exact⟨i,rfl,h⟩
theorem Kt(z:List Value)(n:Nat):(Array.range (n*z.length)).map (fun i=>(z.toArray)[i % z.toArray.size]!)=(fM z n).toArray:=by
 apply Gh
 intro i;by_cases ak:i<n*z.length
 ·have aM:0<z.length:=by
   rcases jq z.length with q|q
   ·rw[q] at ak;simp at ak
   ·exact q
  have hm:i % z.length<z.length:=gA _ aM;have e:(fM z n).toArray[i]?=z[i % z.length]?:=by rw[<-axs z n i ak];simp
  rw[e];simp[ak,hm]
 ·rw[tw (by simp;omega),tw (by simp[Vz];omega)]
theorem qu{v:Value}(h:plain v=true):bj μ v v:=bj.arQ h
theorem NI{v v':Value}(h:plain v=true)(ao:bj μ v v'):v'=v:=bj.NI h ao
theorem b3.FV{l:List Value}(h:∀v∈l,bj μ v v):b3 μ l l:=⟨rfl,fun i v v' a b=>by
 rw[a] at b;injection b with b;subst b;exact h v (et a)⟩
theorem ako(h:b8 P B w0 μ H w){t:TypeId}{l l' c c' v:Value}(aq:bj μ l l')(aC:bj μ c c')(he:Hu P H t l c=some (v,H')):
 ∃v' a8 bh,(Instr.makeSlice t l' c').run P w=.ok v' a8/\b8 P B w0 bh H' a8/\Step μ bh H H'/\bj bh v v':=by
 unfold Hu at he;cases l with
 |int aW l=>
  cases c with
  |int aT c=>
   obtain rfl:=aq.rb;obtain rfl:=aC.rb;cases hu:P.underlying t with
   |none=>rw[hu] at he;simp at he
   |some d=>
    rw[hu] at he;cases d with
    |slice elem=>
     simp only at he;cases aM:hA P elem with
     |none=>rw[aM] at he;simp at he
     |some z=>
      rw[aM] at he;cases h9:vF P elem with
      |none=>rw[h9] at he;simp at he
      |some ju=>
       rw[h9] at he;cases hs:eV P elem with
       |none=>rw[hs] at he;simp at he
       |some sz=>
        rw[hs] at he;simp only at he;cases uk:ra c 1000000 with
        |none=>rw[uk] at he;simp at he
        |some bS=>
         rw[uk] at he;cases dQ:ra l 1000000 with
         |none=>rw[dQ] at he;simp at he
         |some gM=>
          rw[dQ] at he;simp only at he;cases x6:(Nat.ble gM bS&&Nat.ble ju 1000000&&Nat.beq z.cells.toList.length sz&&z.cells.toList.all fh&&plain z) with
          |false=>rw[x6] at he;simp at he
          |true=>
           rw[x6,cd] at he;simp only[gr] at x6;obtain⟨⟨⟨⟨aL,aG⟩,bt⟩,du⟩,fU⟩:=x6;have aL:=h3 aL;have aG:=h3 aG;have bt:=ez bt;obtain⟨rfl,gm⟩:=Fe uk;obtain⟨rfl,qa⟩:=Fe dQ;cases aE:uN H elem (fM z.cells.toList bS) with
           |none=>rw[aE] at he;simp at he
           |some p=>
            obtain⟨id,H1⟩:=p;rw[aE] at he;simp only[cn,dr] at he;obtain⟨rfl,rfl⟩:=he;have s8:b3 μ z.cells.toList z.cells.toList:=(qu fU).cells;have x5:b3 μ (fM z.cells.toList bS) (fM z.cells.toList bS):=b3.FV fun v av=>by
                exact Kr (p:=fun v=>bj μ v v) av (fun u hu=>by
                 obtain⟨i,ak⟩:=xa.1 hu;exact s8.2 i u u ak ak)
            obtain⟨bh,L,a,b,bb,d1,_⟩:=TW h x5 aE;refine⟨.slice (some ⟨w.heap.size,0,none⟩) gM bS,_,bh,?_,a,b,?_⟩
            ·obtain⟨i,ak,rfl⟩:=PW h9
             have oM:i.zero=some z:=by simpa[hA,ak] using aM
             have s5:i.size=sz:=by simpa[eV,ak] using hs
             have hmul:i.bytes*bS<=1000000*1000000:=sx aG gm;have hg:=Kt z.cells.toList bS;have g8:=run_make (P:=P) w t elem i z hu ak oM aW aT (gM:Int) (bS:Int) (by omega) (by omega) (by
                 have:(i.bytes:Int)*(bS:Int)=((i.bytes*bS:Nat):Int):=by simp
                 rw[this];omega) (by omega)
             rw[g8];simp only[gG];congr 3
             rw[<-hg];simp[madeCells,s5,<-bt]
            ·rw[<-d1];exact .oc id 0 gM bS L bb (by have:(1000000:Nat)<cO:=by decide
                                                    omega)
    |_=>simp at he
  |_=>simp at he
 |_=>simp at he
end
end
end Go.Cre
namespace Go.Cre
noncomputable section
open Go.RowKit
section
variable {P:Program}{B:Nat->Prop}{w0 w:World}{μ:bY}{H H':ar}
theorem aaU{x dV:Value}{m:Nat}(aa:bj μ x dV)(hm:r5 x=some m)(w:World):(Builtin.lenOf dV).run P w=.ok m w:=by
 cases x with
 |slice a len cap=>
  simp[r5] at hm;subst hm;cases a with
  |none=>rw[aa.to];simp[Builtin.lenOf]
  |some a=>obtain⟨b0,ek,rfl⟩:=aa.AE;simp[Builtin.lenOf]
 |string s=>rw[aa.J0];simp[r5] at hm;subst hm;rfl
 |_=>simp[r5] at hm
theorem ag8(s:ByteArray)(n:Nat):((s.extract 0 n).data.map fun b=>Value.int .u8 b.toNat)=((s.data.toList.take n).map fun b=>Value.int .u8 b.toNat).toArray:=by
 apply rv
 simp[ByteArray.data_extract]
theorem LF(h:b8 P B w0 μ H w){x dV:Value}{sz n m:Nat}{l:List Value}(aa:bj μ x dV)(hm:r5 x=some m)(aE:n<=m)(he:j4 H sz n x=some l):
 ∃l',b3 μ l l'/\∀gF,(Builtin.firstCells sz n dV).run P {w with drawn:=gF}=.ok l'.toArray {w with drawn:=gF}:=by
 cases x with
 |slice a len cap=>
  simp[r5] at hm;subst hm;cases a with
  |none=>
   rw[aa.to];cases n with
   |zero=>simp[j4] at he;subst he;exact⟨[],b3.nil _,fun gF=>by simp[Builtin.firstCells]⟩
   |succ n=>simp[j4] at he
  |some a=>
   cases n with
   |zero=>
    obtain⟨b0,ek,rfl⟩:=aa.AE;simp[j4] at he;subst he;exact⟨[],b3.nil _,fun gF=>by simp[Builtin.firstCells,loadCells,loadCellsFrom]⟩
   |succ n=>
    obtain⟨id,off,L,gw,ek,rfl,a9,rfl,ah,_⟩:=aa.wW (.inr (.inl (by omega)));simp only[j4] at he;rw[ah (by omega)];cases z7:H.mem.get id with
    |none=>rw[z7] at he;simp at he
    |some b=>
     rw[z7] at he;cases b with
     |row cells elem opn bF d' sh=>
      simp only at he;obtain⟨l',b4,bZ,cH⟩:=h.cells a9 z7 he;refine⟨l',b4,fun gF=>?_⟩;exact run_firstCells_some (P:=P) {w with drawn:=gF} sz (n+1) ⟨L.r,off,none⟩ len ek l' (by rw[bZ]) (fun j v aX=>by rw[Addr.rG];exact cH j v aX)
     |_=>simp at he
 |string s=>
  rw[aa.J0];simp only[j4] at he;cases aI:takeN n s.data.toList with
  |none=>rw[aI] at he;simp at he
  |some bs=>
   rw[aI] at he;simp only[cn] at he;subst he;obtain⟨ax,aS,cl⟩:=F0 aI;refine⟨bs.map fun b=>.int .u8 b.toNat,b3.FV fun v av=>?_,fun gF=>?_⟩
   ·obtain⟨b,_,rfl⟩:=A1.1 av;exact .atom _ rfl
   ·simp only[Builtin.firstCells,ag8,ax];rfl
 |_=>simp[r5] at hm
theorem UF(t h1 dH e:TypeId)(eK:TypeDesc)(i:TypeInfo)(z:Value)(aI:P.underlying t=some (.slice e))(k3:P.underlying h1=some eK)(sW:∀k,eK≠.int k)(ak:P.info? e=some i)(aM:i.zero=some z)
 (base:Option Addr)(dd iI n:Nat)(x:Value)(ack news:List Value)(hlen:∀w,(Builtin.lenOf x).run P w=.ok n w)
 (hold:∀gF,(Builtin.firstCells i.size dd (.slice base dd iI)).run P {w with drawn:=gF}=.ok ack.toArray {w with drawn:=gF})
 (nv:∀gF,(Builtin.firstCells i.size n x).run P {w with drawn:=gF}=.ok news.toArray {w with drawn:=gF})
 (ay:iI<dd+n) (xY:dd+n<=1000000) (h9:i.bytes<=1000000):
 (Builtin.append_ #[t,h1] dH #[.slice base dd iI,x]).run P w=
  .ok (.slice (some ⟨w.heap.size,0,none⟩) (dd+n) (grownCap w (dd+n) iI e))
   (w.drew.alloc (.cells (ack.toArray++(news.toArray++Builtin.zeroCells z.cells (grownCap w (dd+n) iI e -(dd+n)))) e)):=by
 have aE:¬(dd+n<=iI):=by omega
 have ame:¬(9223372036854775807<((dd:Int)+(n:Int))):=by omega
 have hmul:(dd+n)*i.bytes<=1000000*1000000:=sx xY h9
 have amd:¬(281474976710656<Builtin.nextslicecap (dd+n) iI*i.bytes):=by
  have:=growslice_fits (bytes:=i.bytes) ay (by omega);omega
 have ah:=hold (w.drawn+1);have hw:=nv (w.drawn+1);have pZ:({w with drawn:=w.drawn+1}:World)=w.drew:=rfl;rw[pZ] at ah hw;simp[Builtin.append_,run_underlying aI,run_underlying k3,sizeOf,typeInfo,zeroValue,ak,aM,hlen,aE,ame,amd,Question.forced,hw,ah,newRow,grownCap]
theorem NW(t h1 dH e:TypeId)(eK:TypeDesc)(i:TypeInfo)(aI:P.underlying t=some (.slice e))(k3:P.underlying h1=some eK)(sW:∀k,eK≠.int k)(ak:P.info? e=some i)
 (base:Option Addr)(dd iI n:Nat)(x:Value)(news:List Value)(a8:World)(hlen:∀w,(Builtin.lenOf x).run P w=.ok n w)
 (nv:(Builtin.firstCells i.size n x).run P w=.ok news.toArray w)(ay:dd+n<=iI)
 (dB:∀a,base=some a->(storeCells (a.add (dd*i.size)) news).run P w=.ok () a8)(e6:base=none->a8=w):
 (Builtin.append_ #[t,h1] dH #[.slice base dd iI,x]).run P w=.ok (.slice base (dd+n) iI) a8:=by
 cases base with
 |none=>
  rw[e6 rfl];simp[Builtin.append_,run_underlying aI,run_underlying k3,sizeOf,typeInfo,ak,hlen,ay,nv]
 |some a=>
  have:=dB a rfl;simp[Builtin.append_,run_underlying aI,run_underlying k3,sizeOf,typeInfo,ak,hlen,ay,nv,this]
end
end
end Go.Cre

/- A part of the proof of ResumeBytes. -/
import Derived.Test.YtkmfhjilfjecmaaGreatDoorCad
import Derived.Laws.IdiomCopy
set_option linter.unusedVariables false
set_option linter.unusedSimpArgs false
namespace Go.Cre
noncomputable section
open Go.RowKit
def qN(c:Array Value)(n:Nat):List Value->Array Value
 |[]=>c
 |v::vs=>qN (c.setIfInBounds n v) (n+1) vs
theorem RC(vs:List Value):∀(c:Array Value) (n:Nat),(qN c n vs).size=c.size:=by
 induction vs with
 |nil=>intro c n;rfl
 |cons v vs aI=>intro c n;rw[qN,aI];simp
theorem Mg(vs:List Value):∀(c:Array Value) (n i:Nat),n+vs.length<=c.size->(qN c n vs)[i]?=if n<=i/\i<n+vs.length then vs[i -n]? else c[i]?:=by
 induction vs with
 |nil=>intro c n i h;simp[qN];omega
 |cons v vs aI=>
  intro c n i h;simp only[jh] at h;rw[qN,aI _ _ _ (by simp;omega)];rw[An];by_cases aa:n=i
  ·subst aa;rw[an (by omega),aE rfl,aE (by omega),aE (by simp)];simp
  ·by_cases ae:n+1<=i/\i<n+1+vs.length
   ·rw[aE ae,aE (by simp;omega)];rw[show i -n=(i -(n+1))+1 from by omega,yB]
   ·rw[an ae,an aa,an (by simp;omega)]
theorem alR(v:Value):v.oneCell'=eM v:=by cases v<;>rfl
theorem Addr.rc(b o i:Nat):(⟨b,o,none⟩:Addr).add i=⟨b,o+i,none⟩:=by
 unfold Addr.add;split<;>simp_all
section
variable {P:Program}
theorem cell_of_row{w:World}{r:Nat}{c:Array Value}{e:TypeId}{f:Nat×Nat}(h:w.heap[r]?=some (.cells c e f))(o:Nat):w.cell? ⟨r,o,none⟩=c[o]?:=by
 simp[World.cell?,h]
theorem frozen_of_row{w:World}{r:Nat}{c:Array Value}{e:TypeId}{f:Nat×Nat}(h:w.heap[r]?=some (.cells c e f))(o:Nat):w.frozen? ⟨r,o,none⟩=(decide (f.1<=o)&&decide (o<f.2)):=by
 simp[World.frozen?,h]
theorem Zj{w:World}{r:Nat}{c:Array Value}{e:TypeId}{f:Nat×Nat}(h:w.heap[r]?=some (.cells c e f))(o:Nat)(v:Value):
 w.setCell ⟨r,o,none⟩ v={w with heap:=w.heap.setIfInBounds r (.cells (c.setIfInBounds o v) e f)}:=by
 have aw:r<w.heap.size:=by
  rcases ji r w.heap.size with dZ|dZ
  ·exact dZ
  ·rw[tg dZ] at h;cases h
 unfold World.setCell;congr 1
 apply Fu
 intro i;rw[aaN,An];by_cases ao:r=i
 ·subst ao;rw[aE rfl,aE rfl,h,aE aw];rfl
 ·simp[ao]
theorem Zc(r off:Nat)(e:TypeId)(f:Nat×Nat):∀(vs:List Value) (i:Nat) (c:Array Value) (w:World),w.heap[r]?=some (.cells c e f)->off+i+vs.length<=c.size->
 (∀j,j<vs.length->¬(f.1<=off+i+j/\off+i+j<f.2))->(∀v∈vs,eM v=true)->
 (storeCells ⟨r,off,none⟩ vs i).run P w=.ok () {w with heap:=w.heap.setIfInBounds r (.cells (qN c (off+i) vs) e f)}:=by
 intro vs;induction vs with
 |nil=>
  intro i c w h _ _ _;have aw:r<w.heap.size:=by
   rcases ji r w.heap.size with dZ|dZ
   ·exact dZ
   ·rw[tg dZ] at h;cases h
  have:w.heap.setIfInBounds r (.cells c e f)=w.heap:=by
   apply Fu
   intro j;rw[An];split
   ·rename_i a';subst a';exact h.symm
   ·rfl
  simp[storeCells,qN,this]
 |cons v vs aI=>
  intro i c w h av aD aa;simp only[jh] at av aD;have aw:r<w.heap.size:=by
   rcases ji r w.heap.size with dZ|dZ
   ·exact dZ
   ·rw[tg dZ] at h;cases h
  have dw:(store ((⟨r,off,none⟩:Addr).add i) v).run P w=.ok () (w.setCell ⟨r,off+i,none⟩ v):=by
   rw[Addr.rc,run_store P w _ v _ (by rw[alR];exact aa v (by simp))];have bE:=aD 0 (by omega);have aC:w.cell? ⟨r,off+i,none⟩=some (c[off+i]'(by omega)):=by
    rw[cell_of_row h,CT (by omega)]
   have Ez:w.frozen? ⟨r,off+i,none⟩=false:=by
    rw[frozen_of_row h];simp only[tn] at bE;by_cases q:f.1<=off+i
    ·have:¬(off+i<f.2):=fun x=>bE ⟨q,x⟩;simp[this]
    ·simp[q]
   simp[aC,Ez]
  have hw:(w.setCell ⟨r,off+i,none⟩ v).heap[r]?=some (.cells (c.setIfInBounds (off+i) v) e f):=by
   rw[Zj h];show(w.heap.setIfInBounds r _)[r]?=_;rw[An];simp[aw]
  have:=aI (i+1) (c.setIfInBounds (off+i) v) (w.setCell ⟨r,off+i,none⟩ v) hw (by simp;omega) (fun j a'=>by
   have:=aD (j+1) (by omega);rwa [show off+i+(j+1)=off+(i+1)+j from by omega] at this) (fun x U=>aa x (by simp[U]))
  simp only[storeCells,Sem.run_bind,dw,Result.andThen_ok,this,qN];rw[Zj h,show off+(i+1)=off+i+1 from by omega];congr 2
  show(w.heap.setIfInBounds r _).setIfInBounds r _=_;apply Fu
  intro j;simp only[An,Jw];split<;>rfl
variable {B:Nat->Prop}{w0 w:World}{μ:bY}{H H':aA}
theorem U6{N eA:Nat}{sh:Bool}{f:Nat×Nat}(h:Ob N eA sh f){o:Nat}(ar:o<N)(bE:eA<=o):¬(f.1<=o/\o<f.2):=fun q=>by
 have:=h.1 o ar q.1 q.2;omega
theorem b9.aay(h:b9 P B w0 μ H w){id bI eA Oc:Nat}{L:Loc}{cells cells':List Value}{elem:TypeId}{opn sh:Bool}{o':Obj}{H1:aA}(bS:μ id=some L)(rC:H.bW<=id)(hm:H.mem.get id=some (.row cells elem opn bI eA sh))
 (s1:cells'.length=cells.length)(hu:H.upd id (.row cells' elem opn bI Oc sh)=some H1)(he:(bif opn then wb H1 id bI else some H1)=some H')(ap:km P μ L (.row cells' elem opn bI Oc sh) o'):
 b9 P B w0 μ H' {w with heap:=w.heap.setIfInBounds L.r o'}/\Step μ μ H H':=by
 obtain⟨jB,lX,jc,qQ,nV⟩:=aA.wB hu;have vS:H.mem.get id≠some .dead:=by rw[hm];simp
 cases opn with
 |false=>
  simp only[dT] at he;injection he with he;subst he
  refine h.write bS rC vS jB jc qQ (by rw[nV];simp) (fun x U=>.inl (by rw[nV,an U])) ?_ (fun f l av=>.inl (by rw[lX];exact av)) (fun f l av=>.inl (by rw[<-lX];exact av))
   (fun c e f z s q=>by injection q with _ _ q;cases q) (fun q=>by rw[hm] at q;simp[kg] at q) ap
  intro x bN U oW aw;rcases h.sep id x L bN (Ne.symm U) bS oW aw.symm with d|d|⟨cP,l,⟨c1,aL,fm,Mb,q⟩,_⟩
  ·exact absurd d vS
  ·rw[nV,an U];exact d
  ·rw[hm] at q;injection q with q;injection q with _ _ q;cases q
 |true=>
  simp only[b7] at he;unfold wb at he;cases aD:H1.bI.get bI with
  |none=>rw[aD] at he;cases he
  |some l=>
   rw[aD] at he;simp only at he;cases aO:sX H1 id l with
   |none=>rw[aO] at he;cases he
   |some cv=>
    rw[aO] at he;simp only at he;obtain⟨bl,bp,bQ,cU,gb,ot⟩:=Il aO;obtain⟨g1,g2,g3,g4,g5⟩:=aA.Cu he;have o0:H.bI.get bI=some l:=by rw[<-lX];exact aD
    have hid:H'.mem.get id=some (.row cells' elem true bI Oc sh):=by rw[g2,ot id (.inr rfl),nV];simp
    have Wr:∀x,x≠id->x∉l->H'.mem.get x=H.mem.get x:=fun x U kS=>by rw[g2,ot x (.inl kS),nV,an U]
    have lN:∀x,x≠id->x∈l->H'.mem.get x=some .dead:=fun x U kS=>by rw[g2];exact gb x kS U
    refine h.write bS rC vS (by omega) (by omega) (by omega) hid ?_ ?_ ?_ ?_ ?_ (fun _=>rfl) ap
    ·intro x U;by_cases kS:x∈l
     ·exact .inr ⟨lN x U kS,(h.lb bI l x o0 kS).2⟩
     ·exact .inl (Wr x U kS)
    ·intro x bN U oW aw;rcases h.sep id x L bN (Ne.symm U) bS oW aw.symm with d|d|⟨cP,l',⟨c1,aL,fm,Mb,q⟩,_,c6,_,m2⟩
     ·exact absurd d vS
     ·by_cases kS:x∈l
      ·exact lN x U kS
      ·rw[Wr x U kS];exact d
     ·rw[hm] at q;injection q with q;injection q with _ _ _ q;subst q
      rw[o0] at c6;injection c6 with c6;subst c6
      exact lN x U m2
    ·intro cP l' c6;by_cases pB:cP=bI
     ·subst pB;rw[o0] at c6;injection c6 with c6;subst c6
      right
      intro x y U ai eZ;by_cases iC:x=id
      ·right;exact lN y (fun e=>eZ (by rw[iC,e])) ai
      ·left;exact lN x iC U
     ·left;rw[g5,an pB,bp,lX];exact c6
    ·intro cP l' c6;rw[g5] at c6;split at c6
     ·injection c6 with c6;right;exact⟨c6.symm,rfl⟩
     ·left;rw[bp,lX] at c6;exact c6
    ·intro c1 aL f1 fm Mb q;injection q with np _ _ q;subst q;subst np
     exact⟨_,_,_,_,hm,s1.symm⟩
theorem N2(h:b9 P B w0 μ H w){id off:Nat}{L:Loc}{vs kH:List Value}(bS:μ id=some L)(ay:b0 μ vs kH)(he:rl H id off vs=some H'):
 ∃br,(storeCells ⟨L.r,off,none⟩ kH).run P w=.ok () br/\b9 P B w0 μ H' br/\Step μ μ H H':=by
 unfold rl at he;cases vs with
 |nil=>
  injection he with he;subst he
  have:=ay.lm;subst this;exact⟨w,rfl,h,Step.refl _ _⟩
 |cons v0 aan=>
  simp only at he;generalize H3:v0::aan=vs at*;cases aq:Nat.blt id H.bW with
  |true=>rw[aq] at he;cases he
  |false=>
   rw[aq,dT] at he;have rC:H.bW<=id:=by
    have:¬id<H.bW:=fun q=>by have:=j8 q;unfold Nat.blt at aq;simp_all
    omega
   cases hm:H.mem.get id with
   |none=>rw[hm] at he;cases he
   |some b=>
    rw[hm] at he;cases b with
    |row cells elem opn bI eA sh=>
     simp only at he;cases aC:(Nat.ble eA off&&vs.all eM) with
     |false=>rw[aC] at he;cases he
     |true=>
      rw[aC,b7] at he;simp only[fS] at aC;have ah6:=hV aC.1;cases hs:gg off cells vs with
      |none=>rw[hs] at he;cases he
      |some cells'=>
       rw[hs] at he;simp only at he;cases hu:H.upd id (.row cells' elem opn bI eA sh) with
       |none=>rw[hu] at he;cases he
       |some H1=>
        rw[hu] at he;simp only at he;obtain⟨s1,s2,wv⟩:=RF hs;obtain⟨b,o,bb,a7,b8⟩:=h.fT id L bS;rw[hm] at bb;injection bb with bb;subst bb
        cases o with
        |cells c e f=>
         obtain⟨cO,ed,gr,iG,mK,qI,mn⟩:=b8;have rQ:=ay.1;have iB:=Zc (P:=P) L.r off e f kH 0 c w a7 (by omega) (fun j a'=>by
          simp only[tn];exact U6 mn (by omega) (by omega)) (fun v v7=>by
          obtain⟨i,ao⟩:=kp.1 v7;have sN:i<vs.length:=by
           have:=(dY.1 ao).1;omega
          have:=ay.2 i vs[i] v (dj sN) ao;rw[this.eM];exact tk.1 aC.2 _ (JG sN))
         simp only[tn] at iB;have ap:km P μ L (.row cells' elem opn bI eA sh) (.cells (qN c off kH) e f):=by
          refine⟨cO,by rw[RC];exact ed,gr,by omega,fun ar=>by have:=mK ar;omega,?_,mn⟩;intro i v v' ao hi';rw[Mg _ _ _ _ (by omega)] at hi';rw[wv] at ao;rw[<-rQ] at hi';split at ao
          ·rename_i tY;rw[aE tY] at hi';exact ay.2 _ v v' ao hi'
          ·rename_i tY;rw[an tY] at hi';exact qI i v v' ao hi'
         exact⟨_,iB,h.aay bS rC hm s1 hu he ap⟩
        |_=>exact b8.elim
    |_=>cases he
end
end
end Go.Cre
namespace Go.Cre
noncomputable section
open Go.RowKit
section
variable {P:Program}{B:Nat->Prop}{w0 w:World}{μ:bY}{H H':aA}
theorem bB.pf{a:Addr}{v:Value}(h:bB μ (.pointer (some a)) v):∃id off L,a=⟨id,off,none⟩/\μ id=some L/\v=.pointer (some ⟨L.r,off,none⟩):=by
 cases h with
 |atom _ h=>simp[isAtom] at h
 |ptr id off L bS=>exact⟨id,off,L,rfl,bS,rfl⟩
theorem bB.Cx{a:Addr}{len cap:Nat}{v:Value}(h:bB μ (.slice (some a) len cap) v):∃bV eh,v=.slice (some bV) len eh:=by
 cases h with
 |atom _ h=>simp[isAtom] at h
 |nU id off len cap L bS aC=>exact⟨_,_,rfl⟩
 |pW id off len cap L bS aC mZ=>exact⟨_,_,rfl⟩
 |wy id off gf L bS=>exact⟨_,_,rfl⟩
 |yk a=>exact⟨_,_,rfl⟩
theorem bB.aoi{a:Addr}{len cap:Nat}{v:Value}(h:bB μ (.slice (some a) len cap) v)(aC:cap≠cZ):∃bV,v=.slice (some bV) len cap:=by
 cases h with
 |atom _ h=>simp[isAtom] at h
 |nU id off len cap L bS aC=>exact⟨_,rfl⟩
 |pW id off len cap L bS aC mZ=>exact absurd rfl aC
 |wy id off gf L bS=>exact absurd rfl aC
 |yk a=>exact⟨_,rfl⟩
theorem bB.yl{a:Addr}{len cap:Nat}{v:Value}(h:bB μ (.slice (some a) len cap) v)(hs:a.spot=none\/0<len\/0<cap):
 ∃id off L gf eh,a=⟨id,off,none⟩/\μ id=some L/\v=.slice (some ⟨L.r,gf,none⟩) len eh/\(0<len->gf=off)/\len<=max len eh/\
  ((cap<cZ/\eh=cap/\gf=off)\/(cap=cZ/\len<=eh/\gf=off/\off+eh*L.sz<=L.N)\/(cap=cZ/\len=0/\eh=0)):=by
 cases h with
 |atom _ h=>simp[isAtom] at h
 |nU id off len cap L bS aC=>exact⟨id,off,L,off,cap,rfl,bS,rfl,fun _=>rfl,by omega,.inl ⟨aC,rfl,rfl⟩⟩
 |pW id off len cap L bS aC mZ=>exact⟨id,off,L,off,cap,rfl,bS,rfl,fun _=>rfl,by omega,.inr (.inl ⟨rfl,aC,rfl,mZ⟩)⟩
 |wy id off gf L bS=>exact⟨id,off,L,gf,0,rfl,bS,rfl,fun h=>absurd h (by omega),by omega,.inr (.inr ⟨rfl,rfl,rfl⟩)⟩
 |yk a=>rcases hs with q|q|q<;>cases q
theorem bB.uK{len cap:Nat}{v:Value}(h:bB μ (.slice none len cap) v):v=.slice none len cap:=by cases h;rfl
theorem bB.E1{v:Value}(h:bB μ (.pointer none) v):v=.pointer none:=by cases h;rfl
theorem bB.Ir{r:Nat}{v:Value}(h:bB μ (.map (some r)) v):∃L,μ r=some L/\v=.map (some L.r):=by
 cases h with
 |atom _ h=>simp[isAtom] at h
 |map id L bS=>exact⟨L,bS,rfl⟩
theorem bB.Is{v:Value}(h:bB μ (.map none) v):v=.map none:=by cases h;rfl
theorem bB.xX{t:TypeId}{x v:Value}(h:bB μ (.iface t x) v):∃dR,v=.iface t dR/\bB μ x dR:=by
 cases h with
 |atom _ h=>simp[isAtom] at h
 |iface t v v' h=>exact⟨v',rfl,h⟩
theorem bB.IC{v:Value}(h:bB μ .nilIface v):v=.nilIface:=by cases h;rfl
theorem bB.LH{v:Value}(h:bB μ .nilFunc v):v=.nilFunc:=by cases h;rfl
theorem kG{t:TypeId}{n:Nat}(h:ef P t=some n)(w:World):(sizeOf t).run P w=.ok n w:=by
 unfold ef at h;cases ao:P.info? t with
 |none=>rw[ao] at h;cases h
 |some i=>rw[ao] at h;injection h with h;subst h;simp[sizeOf,typeInfo,ao]
theorem RB{t:TypeId}{n:Nat}(h:ef P t=some n):P.cellsOf t=n:=by
 unfold ef at h;cases ao:P.info? t with
 |none=>rw[ao] at h;cases h
 |some i=>rw[ao] at h;injection h with h;subst h;simp[Program.cellsOf,ao]
theorem yu{t:TypeId}{z:Value}(h:fy P t=some z)(w:World):(zeroValue t).run P w=.ok z w:=by
 unfold fy at h;cases ao:P.info? t with
 |none=>rw[ao] at h;cases h
 |some i=>rw[ao] at h;simp only at h;simp[zeroValue,typeInfo,ao,h]
theorem e1{t:TypeId}{d:TypeDesc}(h:P.underlying t=some d)(w:World):(underlying t).run P w=.ok d w:=by
 simp[underlying,h]
theorem S9{t:TypeId}{n:Nat}(h:sl P t=some (some n)):(∀w,(isAgg t).run P w=.ok true w)/\ef P t=some n:=by
 unfold sl at h;cases ao:P.info? t with
 |none=>rw[ao] at h;cases h
 |some i=>
  rw[ao] at h;simp only at h;refine⟨fun w=>?_,?_⟩
  ·cases hu:P.underlying t with
   |none=>rw[hu] at h;cases h
   |some d=>rw[hu] at h;cases d<;>first|(simp[isAgg,underlying,hu];done)|(simp at h)
  ·cases hu:P.underlying t with
   |none=>rw[hu] at h;cases h
   |some d=>rw[hu] at h;cases d<;>first|(simp at h;simp[ef,ao,h];done)|(simp at h)
theorem S8{t:TypeId}(h:sl P t=some none):∀w,(isAgg t).run P w=.ok false w:=by
 unfold sl at h;cases ao:P.info? t with
 |none=>rw[ao] at h;cases h
 |some i=>
  rw[ao] at h;simp only at h;intro w;cases hu:P.underlying t with
  |none=>rw[hu] at h;cases h
  |some d=>rw[hu] at h;cases d<;>first|(simp[isAgg,underlying,hu];done)|(simp at h)
theorem UT{t:TypeId}{cs cS:List Value}{off:Nat}{v:Value}(aw:b0 μ cs cS)(he:mX P t cs off=some v)(w:World):
 ∃v',(part t cS.toArray off).run P w=.ok v' w/\bB μ v v':=by
 unfold mX at he;cases a1:sl P t with
 |none=>rw[a1] at he;cases he
 |some q=>
  rw[a1] at he;cases q with
  |none=>
   simp only[kE] at he;obtain⟨v',aa,ae⟩:=aw.get he;refine⟨v',?_,ae⟩;simp[part,S8 a1,aa]
  |some n=>
   simp only[tJ] at he;obtain⟨aa,ae⟩:=S9 a1;cases aB:takeN n (cs.drop off) with
   |none=>rw[aB] at he;cases he
   |some l=>
    rw[aB] at he;injection he with he;subst he
    obtain⟨aL,bk,cG⟩:=Fh aB;refine⟨.agg ((cS.drop off).take n).toArray,?_,?_⟩
    ·simp[part,aa,kG ae]
    ·rw[aL];exact bB.J1 ((aw.drop off).take n)
theorem b9.row(h:b9 P B w0 μ H w){id:Nat}{L:Loc}{cells:List Value}{elem:TypeId}{opn:Bool}{bI eA:Nat}{sh:Bool}(bS:μ id=some L)(hm:H.mem.get id=some (.row cells elem opn bI eA sh)):
 ∃c f,w.heap[L.r]?=some (.cells c elem f)/\c.size=L.N/\P.cellsOf elem=L.sz/\cells.length<=L.N/\(opn=false->cells.length=L.N)/\b0 μ cells (c.toList.take cells.length)/\Ob L.N eA sh f:=by
 obtain⟨b,o,bb,a7,b8⟩:=h.fT id L bS;rw[hm] at bb;injection bb with bb;subst bb
 cases o with
 |cells c e f=>
  obtain⟨rfl,ed,gr,iG,mK,qI,mn⟩:=b8;refine⟨c,f,a7,ed,gr,iG,mK,⟨by simp;omega,fun i v v' a b=>?_⟩,mn⟩;rw[kK] at b;split at b
  ·exact qI i v v' a (by simpa using b)
  ·cases b
 |_=>exact b8.elim
theorem b9.map(h:b9 P B w0 μ H w){id:Nat}{L:Loc}{es:List MapEntry}{clock:Nat}(bS:μ id=some L)(hm:H.mem.get id=some (.map es clock)):
 ∃mA Kh,w.heap[L.r]?=some (.map mA Kh)/\Ap μ es mA.toList:=by
 obtain⟨b,o,bb,a7,b8⟩:=h.fT id L bS;rw[hm] at bb;injection bb with bb;subst bb
 cases o with
 |map mA cd=>exact⟨mA,cd,a7,b8⟩
 |_=>exact b8.elim
theorem b9.cells(h:b9 P B w0 μ H w){id:Nat}{L:Loc}{cells:List Value}{elem:TypeId}{opn:Bool}{bI eA:Nat}{sh:Bool}(bS:μ id=some L)(hm:H.mem.get id=some (.row cells elem opn bI eA sh))
 {off n:Nat}{l:List Value}(aB:takeN n (nJ off cells)=some l):∃l',b0 μ l l'/\l'.length=n/\(∀j v,l'[j]?=some v->w.cell? ⟨L.r,off+j,none⟩=some v):=by
 obtain⟨c,f,aa,ae,aF,bo,eB,ht,lI⟩:=h.row bS hm;obtain⟨aL,bk,cG⟩:=Fh aB;rw[tJ] at aL cG;refine⟨((c.toList.take cells.length).drop off).take n,?_,?_,?_⟩
 ·rw[aL];exact(ht.drop off).take n
 ·have:=((ht.drop off).take n).1;rw[<-aL,bk] at this;exact this.symm
 ·intro j v a';rw[kK] at a';split at a'
  ·rw[q4,kK] at a';split at a'
   ·rw[cell_of_row aa];simpa using a'
   ·cases a'
  ·cases a'
theorem UQ(h:b9 P B w0 μ H w){t:TypeId}{id off:Nat}{L:Loc}{v:Value}(bS:μ id=some L)(he:DN P H t ⟨id,off,none⟩=some v):
 ∃v',(loadVar t ⟨L.r,off,none⟩).run P w=.ok v' w/\bB μ v v':=by
 simp only[DN] at he;cases hm:H.mem.get id with
 |none=>rw[hm] at he;cases he
 |some b=>
  rw[hm] at he;cases b with
  |row cells elem opn bI eA sh=>
   simp only at he;unfold mX at he;cases a1:sl P t with
   |none=>rw[a1] at he;cases he
   |some q=>
    rw[a1] at he;cases q with
    |none=>
     simp only[kE] at he;obtain⟨c,f,aa,ae,aF,bo,eB,ht,lI⟩:=h.row bS hm;obtain⟨v',g1,g2⟩:=ht.get he;refine⟨v',?_,g2⟩;rw[kK] at g1;split at g1
     ·have:w.cell? ⟨L.r,off,none⟩=some v':=by rw[cell_of_row aa];simpa using g1
      simp[loadVar,S8 a1,load,Sem.run,this]
     ·cases g1
    |some n=>
     obtain⟨aa,ae⟩:=S9 a1;simp only at he;cases aB:takeN n (nJ off cells) with
     |none=>rw[aB] at he;cases he
     |some l=>
      rw[aB] at he;injection he with he;subst he
      obtain⟨l',g1,g2,g3⟩:=h.cells bS hm aB;refine⟨.agg l'.toArray,?_,bB.J1 g1⟩;have:=run_loadCells_list (P:=P) w ⟨L.r,off,none⟩ l' (fun j v a'=>by rw[Addr.rc];exact g3 j v a');rw[g2] at this;simp[loadVar,aa,kG ae,this]
  |_=>cases he
theorem aeX(h:b9 P B w0 μ H w){t:TypeId}{p hO v:Value}(au:bB μ p hO)(he:AZ P H t p=some v):
 ∃v',(Instr.loadAt t hO).run P w=.ok v' w/\bB μ v v':=by
 unfold AZ at he;cases p with
 |pointer a=>
  cases a with
  |none=>simp at he
  |some a=>
   obtain⟨id,off,L,rfl,bS,rfl⟩:=au.pf;simp only at he;obtain⟨v',aa,ae⟩:=UQ h bS he;exact⟨v',by simp[Instr.loadAt,Instr.sureAddr,aa],ae⟩
 |_=>simp at he
theorem ae6(h:b9 P B w0 μ H w){t:TypeId}{p hO v v':Value}(au:bB μ p hO)(ay:bB μ v v')(he:xj P H t p v=some H'):
 ∃br,(Instr.storeAt t hO v').run P w=.ok () br/\b9 P B w0 μ H' br/\Step μ μ H H':=by
 unfold xj at he;cases p with
 |pointer a=>
  cases a with
  |none=>simp at he
  |some a=>
   obtain⟨id,off,L,rfl,bS,rfl⟩:=au.pf;simp only at he;cases hs:ef P t with
   |none=>rw[hs] at he;cases he
   |some n=>
    rw[hs] at he;simp only at he;cases ap:Nat.beq v.cells.toList.length n with
    |false=>rw[ap] at he;cases he
    |true=>
     rw[ap,b7] at he;obtain⟨br,aa,ae,aF⟩:=N2 h bS ay.cells he;have aP:=eO ap;have av:=ay.cells.1;refine⟨br,?_,ae,aF⟩;have eV:v'.cells.size=n:=by simp at av aP;omega
     simp[Instr.storeAt,Instr.sureAddr,storeVar,kG hs,eV,aa]
 |_=>simp at he
theorem abu{l l':List Value}(h:b0 μ l l')(a1:l.all eM=true):∀v∈l',eM v=true:=fun v ay=>by
 obtain⟨i,ao⟩:=kp.1 ay;have sN:i<l.length:=by have:=(dY.1 ao).1;have:=h.1;omega
 rw[(h.2 i l[i] v (dj sN) ao).eM];exact tk.1 a1 _ (JG sN)
theorem QO(h:b9 P B w0 μ H w){elem:TypeId}{cells cells':List Value}{id:Nat}(aC:b0 μ cells cells')(aP:uB H elem cells=some (id,H')):
 ∃bD L,b9 P B w0 bD H' (w.alloc (.cells cells'.toArray elem))/\Step μ bD H H'/\bD id=some L/\L.r=w.heap.size/\L.N=cells.length/\L.sz=P.cellsOf elem:=by
 have ap:km P (μ.put H.ak ⟨w.heap.size,cells.length,P.cellsOf elem⟩) ⟨w.heap.size,cells.length,P.cellsOf elem⟩ (.row cells elem false 0 0 false) (.cells cells'.toArray elem):=by
  refine⟨rfl,by simp[aC.1],rfl,cW _,fun _=>rfl,fun i v v' a b=>?_,?_⟩
  ·exact(aC.2 i v v' a (by simpa using b)).mono (h.xk _)
  ·exact⟨fun off _ aa ae=>by simp at ae,fun _=>.inl rfl⟩
 obtain⟨a,b,rfl⟩:=h.made aP rfl rfl ap;exact⟨_,_,a,b,bY.kW _ _ _,rfl,rfl,rfl⟩
theorem UM(h:b9 P B w0 μ H w){elem:TypeId}{v v' r:Value}(ay:bB μ v v')(he:xh H elem v=some (r,H')):
 ∃dx br bD,(Instr.box elem v').run P w=.ok dx br/\b9 P B w0 bD H' br/\Step μ bD H H'/\bB bD r dx:=by
 unfold xh at he;cases ar:v.cells.toList.all eM with
 |false=>rw[ar] at he;cases he
 |true=>
  rw[ar,b7] at he;cases aP:uB H elem v.cells.toList with
  |none=>rw[aP] at he;cases he
  |some p=>
   obtain⟨id,H1⟩:=p;rw[aP] at he;simp only[cp,dB] at he;obtain⟨rfl,rfl⟩:=he;obtain⟨bD,L,a,b,c,d,_⟩:=QO h ay.cells aP;refine⟨.pointer (some ⟨w.heap.size,0,none⟩),_,bD,?_,a,b,?_⟩
   ·simp[Instr.box,newVar,newRow,newObj,Sem.run]
   ·rw[<-d];exact .ptr id 0 L c
theorem aeT{s:TypeId}{p hO v:Value}{f:Nat}(au:bB μ p hO)(he:GO P s p f=some v)(w:World):
 ∃v',(Instr.fieldAt s hO f).run P w=.ok v' w/\bB μ v v':=by
 unfold GO at he;cases p with
 |pointer a=>
  cases a with
  |none=>simp at he
  |some a=>
   obtain⟨id,off,L,rfl,bS,rfl⟩:=au.pf;simp only at he;cases hu:P.underlying s with
   |none=>rw[hu] at he;cases he
   |some d=>
    rw[hu] at he;cases d with
    |struct fields=>
     simp only at he;cases aD:fields[f]? with
     |none=>rw[aD] at he;cases he
     |some fd=>
      rw[aD] at he;simp only at he;cases hs:ef P fd.type with
      |none=>rw[hs] at he;cases he
      |some n=>
       rw[hs] at he;cases n with
       |zero=>cases he
       |succ n=>
        simp only[cp] at he;subst he;refine⟨.pointer (some ⟨L.r,off+fd.offset,none⟩),?_,.ptr id _ L bS⟩;simp[Instr.fieldAt,e1 hu,aD,Instr.sureAddr,fieldPlace,kG hs,Addr.rc]
    |_=>cases he
 |_=>simp at he
theorem Qu{i:Int}{len n:Nat}(h:uv i len=some n):i=(n:Int)/\n<len:=by
 unfold uv at h;cases i with
 |ofNat m=>
  simp only at h;cases ap:Nat.blt m len with
  |false=>rw[ap] at h;cases h
  |true=>
   rw[ap,b7] at h;injection h with h;subst h
   exact⟨rfl,hV ap⟩
 |negSucc m=>cases h
theorem EE{i:Int}{len n:Nat}(h:qw i len=some n):i=(n:Int)/\n<=len:=by
 unfold qw at h;cases i with
 |ofNat m=>
  simp only at h;cases ap:Nat.ble m len with
  |false=>rw[ap] at h;cases h
  |true=>
   rw[ap,b7] at h;injection h with h;subst h
   exact⟨rfl,hV ap⟩
 |negSucc m=>cases h
theorem bB.qx{k:IntKind}{n:Int}{v:Value}(h:bB μ (.int k n) v):v=.int k n:=by
 cases h;rfl
theorem bB.Gb{b:Bool}{v:Value}(h:bB μ (.bool b) v):v=.bool b:=by cases h;rfl
theorem bB.Jb{s:ByteArray}{v:Value}(h:bB μ (.string s) v):v=.string s:=by cases h;rfl
theorem aeU{t:TypeId}{x dR aW Xj v:Value}(U:bB μ x dR)(ao:bB μ aW Xj)(he:AY P t x aW=some v)(w:World):
 ∃v',(Instr.indexAt t dR Xj).run P w=.ok v' w/\bB μ v v':=by
 unfold AY at he;cases aW with
 |int k i=>
  obtain rfl:=ao.qx;simp only at he;cases hu:P.underlying t with
  |none=>rw[hu] at he;simp at he
  |some d=>
   rw[hu] at he;cases d with
   |array len elem=>
    cases x with
    |pointer a=>
     cases a with
     |none=>simp at he
     |some a=>
        obtain⟨id,off,L,rfl,bS,rfl⟩:=U.pf;simp only at he;cases aP:uv i len with
        |none=>rw[aP] at he;simp at he
        |some n=>
         rw[aP] at he;cases hs:ef P elem with
         |none=>rw[hs] at he;simp at he
         |some sz=>
          rw[hs] at he;simp only[cp] at he;subst he;obtain⟨rfl,cV⟩:=Qu aP;refine⟨.pointer (some ⟨L.r,off+n*sz,none⟩),?_,.ptr id _ L bS⟩;simp[Instr.indexAt,asIntOf,e1 hu,Instr.sureAddr,kG hs,cV,Addr.rc]
    |_=>simp at he
   |slice elem=>
    cases x with
    |slice a len cap=>
     cases a with
     |none=>simp at he
     |some a=>
        have om:a.spot=none:=by
         cases q:a.spot with
         |none=>rfl
         |some _=>simp[q] at he
        obtain⟨id,off,L,gf,eh,rfl,bS,rfl,ar,_,_⟩:=U.yl (.inl om);simp only at he;cases aP:uv i len with
        |none=>rw[aP] at he;simp at he
        |some n=>
         rw[aP] at he;cases hs:ef P elem with
         |none=>rw[hs] at he;simp at he
         |some sz=>
          rw[hs] at he;simp only[cp] at he;subst he;obtain⟨rfl,cV⟩:=Qu aP;rw[ar (by omega)];refine⟨.pointer (some ⟨L.r,off+n*sz,none⟩),?_,.ptr id _ L bS⟩;simp[Instr.indexAt,asIntOf,e1 hu,kG hs,cV,Addr.rc]
    |_=>simp at he
   |_=>simp at he
 |_=>simp at he
end
end
end Go.Cre

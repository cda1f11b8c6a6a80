/- A part of the proof of ResumeBack. -/
import Derived.Test.YtiemfjdacfioeaaGreatDoorCad
import Derived.Laws.IdiomCopy
import Derived.Laws.MakeOwn
set_option linter.unusedVariables false
set_option linter.unusedSimpArgs false
namespace Go.Cre
noncomputable section
open Go.RowKit
def qI(c:Array Value)(n:Nat):List Value->Array Value
 |[]=>c
 |v::vs=>qI (c.setIfInBounds n v) (n+1) vs
theorem Re(vs:List Value):∀(c:Array Value) (n:Nat),(qI c n vs).size=c.size:=by
 induction vs with
 |nil=>intro c n;rfl
 |cons v vs aK=>intro c n;rw[qI,aK];simp
theorem LW(vs:List Value):∀(c:Array Value) (n i:Nat),n+vs.length<=c.size->(qI c n vs)[i]?=if n<=i/\i<n+vs.length then vs[i -n]? else c[i]?:=by
 induction vs with
 |nil=>intro c n i h;simp[qI];omega
 |cons v vs aK=>
  intro c n i h;simp only[iQ] at h;rw[qI,aK _ _ _ (by simp;omega)];rw[Am];by_cases aa:n=i
  ·subst aa;rw[ap (by omega),aE rfl,aE (by omega),aE (by simp)];simp
  ·by_cases ae:n+1<=i/\i<n+1+vs.length
   ·rw[aE ae,aE (by simp;omega)];rw[show i -n=(i -(n+1))+1 from by omega,yr]
   ·rw[ap ae,ap aa,ap (by simp;omega)]
theorem ald(v:Value):v.oneCell'=eQ v:=by cases v<;>rfl
theorem Addr.q3(b o i:Nat):(⟨b,o,none⟩:Addr).add i=⟨b,o+i,none⟩:=by
 unfold Addr.add;split<;>simp_all
section
variable {P:Program}
theorem cell_of_row{w:World}{r:Nat}{c:Array Value}{e:TypeId}{f:Nat×Nat}(h:w.heap[r]?=some (.cells c e f))(o:Nat):w.cell? ⟨r,o,none⟩=c[o]?:=by
 simp[World.cell?,h]
theorem frozen_of_row{w:World}{r:Nat}{c:Array Value}{e:TypeId}{f:Nat×Nat}(h:w.heap[r]?=some (.cells c e f))(o:Nat):w.frozen? ⟨r,o,none⟩=(decide (f.1<=o)&&decide (o<f.2)):=by
 simp[World.frozen?,h]
theorem YT{w:World}{r:Nat}{c:Array Value}{e:TypeId}{f:Nat×Nat}(h:w.heap[r]?=some (.cells c e f))(o:Nat)(v:Value):
 w.setCell ⟨r,o,none⟩ v={w with heap:=w.heap.setIfInBounds r (.cells (c.setIfInBounds o v) e f)}:=by
 have ay:r<w.heap.size:=by
  rcases kY r w.heap.size with dE|dE
  ·exact dE
  ·rw[s3 dE] at h;cases h
 unfold World.setCell;congr 1
 apply Fi
 intro i;rw[aao,Am];by_cases ao:r=i
 ·subst ao;rw[aE rfl,aE rfl,h,aE ay];rfl
 ·simp[ao]
theorem YK(r off:Nat)(e:TypeId)(f:Nat×Nat):∀(vs:List Value) (i:Nat) (c:Array Value) (w:World),w.heap[r]?=some (.cells c e f)->off+i+vs.length<=c.size->
 (∀j,j<vs.length->¬(f.1<=off+i+j/\off+i+j<f.2))->(∀v∈vs,eQ v=true)->
 (storeCells ⟨r,off,none⟩ vs i).run P w=.ok () {w with heap:=w.heap.setIfInBounds r (.cells (qI c (off+i) vs) e f)}:=by
 intro vs;induction vs with
 |nil=>
  intro i c w h _ _ _;have ay:r<w.heap.size:=by
   rcases kY r w.heap.size with dE|dE
   ·exact dE
   ·rw[s3 dE] at h;cases h
  have:w.heap.setIfInBounds r (.cells c e f)=w.heap:=by
   apply Fi
   intro j;rw[Am];split
   ·rename_i ba;subst ba;exact h.symm
   ·rfl
  simp[storeCells,qI,this]
 |cons v vs aK=>
  intro i c w h av aC aa;simp only[iQ] at av aC;have ay:r<w.heap.size:=by
   rcases kY r w.heap.size with dE|dE
   ·exact dE
   ·rw[s3 dE] at h;cases h
  have di:(store ((⟨r,off,none⟩:Addr).add i) v).run P w=.ok () (w.setCell ⟨r,off+i,none⟩ v):=by
   rw[Addr.q3,run_store P w _ v _ (by rw[ald];exact aa v (by simp))];have bN:=aC 0 (by omega);have aH:w.cell? ⟨r,off+i,none⟩=some (c[off+i]'(by omega)):=by
    rw[cell_of_row h,CD (by omega)]
   have Ei:w.frozen? ⟨r,off+i,none⟩=false:=by
    rw[frozen_of_row h];simp only[ta] at bN;by_cases q:f.1<=off+i
    ·have:¬(off+i<f.2):=fun x=>bN ⟨q,x⟩;simp[this]
    ·simp[q]
   simp[aH,Ei]
  have hw:(w.setCell ⟨r,off+i,none⟩ v).heap[r]?=some (.cells (c.setIfInBounds (off+i) v) e f):=by
   rw[YT h];show(w.heap.setIfInBounds r _)[r]?=_;rw[Am];simp[ay]
  have:=aK (i+1) (c.setIfInBounds (off+i) v) (w.setCell ⟨r,off+i,none⟩ v) hw (by simp;omega) (fun j ba=>by
   have:=aC (j+1) (by omega);rwa [show off+i+(j+1)=off+(i+1)+j from by omega] at this) (fun x U=>aa x (by simp[U]))
  simp only[storeCells,Sem.run_bind,di,Result.andThen_ok,this,qI];rw[YT h,show off+(i+1)=off+i+1 from by omega];congr 2
  show(w.heap.setIfInBounds r _).setIfInBounds r _=_;apply Fi
  intro j;simp only[Am,Jc];split<;>rfl
variable {B:Nat->Prop}{w0 w:World}{μ:b1}{H H':aB}
theorem UB{N eB:Nat}{sh:Bool}{f:Nat×Nat}(h:NO N eB sh f){o:Nat}(ar:o<N)(bN:eB<=o):¬(f.1<=o/\o<f.2):=fun q=>by
 have:=h.1 o ar q.1 q.2;omega
theorem ca.aab(h:ca P B w0 μ H w){id bM eB NQ:Nat}{L:Loc}{cells cells':List Value}{elem:TypeId}{opn sh:Bool}{o':Obj}{H1:aB}(bT:μ id=some L)(rk:H.bZ<=id)(hm:H.mem.get id=some (.row cells elem opn bM eB sh))
 (s1:cells'.length=cells.length)(hu:H.upd id (.row cells' elem opn bM NQ sh)=some H1)(he:(bif opn then zx H1 id bM else some H1)=some H')(au:kg P μ L (.row cells' elem opn bM NQ sh) o'):
 ca P B w0 μ H' {w with heap:=w.heap.setIfInBounds L.r o'}/\Step μ μ H H':=by
 obtain⟨jT,mH,ke,x8,sZ⟩:=aB.x9 hu;have vI:H.mem.get id≠some .dead:=by rw[hm];simp
 cases opn with
 |false=>
  simp only[dZ] at he;injection he with he;subst he
  refine h.write bT rk vI jT ke x8 (by rw[sZ];simp) (fun x U=>.inl (by rw[sZ,ap U])) ?_ (fun f l av=>.inl (by rw[mH];exact av)) (fun f l av=>.inl (by rw[<-mH];exact av))
   (fun c e f z s q=>by injection q with _ _ q;cases q) (fun q=>by rw[hm] at q;simp[ka] at q) au
  intro x bQ U oN ay;rcases h.sep id x L bQ (Ne.symm U) bT oN ay.symm with d|d|⟨cW,l,⟨bt,aN,fA,LR,q⟩,_⟩
  ·exact absurd d vI
  ·rw[sZ,ap U];exact d
  ·rw[hm] at q;injection q with q;injection q with _ _ q;cases q
 |true=>
  simp only[cb] at he;unfold zx at he;cases aC:H1.bM.get bM with
  |none=>rw[aC] at he;cases he
  |some l=>
   rw[aC] at he;simp only at he;cases aU:sK H1 id l with
   |none=>rw[aU] at he;cases he
   |some cN=>
    rw[aU] at he;simp only at he;obtain⟨bp,bC,b5,da,gM,ob⟩:=K8 aU;obtain⟨g1,g2,g3,g4,g5⟩:=aB.EX he;have oR:H.bM.get bM=some l:=by rw[<-mH];exact aC
    have hid:H'.mem.get id=some (.row cells' elem true bM NQ sh):=by rw[g2,ob id (.inr rfl),sZ];simp
    have V3:∀x,x≠id->x∉l->H'.mem.get x=H.mem.get x:=fun x U kP=>by rw[g2,ob x (.inl kP),sZ,ap U]
    have lC:∀x,x≠id->x∈l->H'.mem.get x=some .dead:=fun x U kP=>by rw[g2];exact gM x kP U
    refine h.write bT rk vI (by omega) (by omega) (by omega) hid ?_ ?_ ?_ ?_ ?_ (fun _=>rfl) au
    ·intro x U;by_cases kP:x∈l
     ·exact .inr ⟨lC x U kP,(h.k3 bM l x oR kP).2⟩
     ·exact .inl (V3 x U kP)
    ·intro x bQ U oN ay;rcases h.sep id x L bQ (Ne.symm U) bT oN ay.symm with d|d|⟨cW,l',⟨bt,aN,fA,LR,q⟩,_,c6,_,m2⟩
     ·exact absurd d vI
     ·by_cases kP:x∈l
      ·exact lC x U kP
      ·rw[V3 x U kP];exact d
     ·rw[hm] at q;injection q with q;injection q with _ _ _ q;subst q
      rw[oR] at c6;injection c6 with c6;subst c6
      exact lC x U m2
    ·intro cW l' c6;by_cases qf:cW=bM
     ·subst qf;rw[oR] at c6;injection c6 with c6;subst c6
      right
      intro x y U ai fl;by_cases iw:x=id
      ·right;exact lC y (fun e=>fl (by rw[iw,e])) ai
      ·left;exact lC x iw U
     ·left;rw[g5,ap qf,bC,mH];exact c6
    ·intro cW l' c6;rw[g5] at c6;split at c6
     ·injection c6 with c6;right;exact⟨c6.symm,rfl⟩
     ·left;rw[bC,mH] at c6;exact c6
    ·intro bt aN f1 fA LR q;injection q with nN _ _ q;subst q;subst nN
     exact⟨_,_,_,_,hm,s1.symm⟩
theorem NB(h:ca P B w0 μ H w){id off:Nat}{L:Loc}{vs kD:List Value}(bT:μ id=some L)(az:b4 μ vs kD)(he:sk H id off vs=some H'):
 ∃bu,(storeCells ⟨L.r,off,none⟩ kD).run P w=.ok () bu/\ca P B w0 μ H' bu/\Step μ μ H H':=by
 unfold sk at he;cases vs with
 |nil=>
  injection he with he;subst he
  have:=az.lf;subst this;exact⟨w,rfl,h,Step.refl _ _⟩
 |cons v0 aoY=>
  simp only at he;generalize HM:v0::aoY=vs at*;cases aq:Nat.blt id H.bZ with
  |true=>rw[aq] at he;cases he
  |false=>
   rw[aq,dZ] at he;have rk:H.bZ<=id:=by
    have:¬id<H.bZ:=fun q=>by have:=lr q;unfold Nat.blt at aq;simp_all
    omega
   cases hm:H.mem.get id with
   |none=>rw[hm] at he;cases he
   |some b=>
    rw[hm] at he;cases b with
    |row cells elem opn bM eB sh=>
     simp only at he;cases aH:(Nat.ble eB off&&vs.all eQ) with
     |false=>rw[aH] at he;cases he
     |true=>
      rw[aH,cb] at he;simp only[fU] at aH;have ahn:=h3 aH.1;cases af:gD off cells vs with
      |none=>rw[af] at he;cases he
      |some cells'=>
       rw[af] at he;simp only at he;cases hu:H.upd id (.row cells' elem opn bM eB sh) with
       |none=>rw[hu] at he;cases he
       |some H1=>
        rw[hu] at he;simp only at he;obtain⟨s1,s2,zU⟩:=Rg af;obtain⟨b,o,bd,a6,b9⟩:=h.fP id L bT;rw[hm] at bd;injection bd with bd;subst bd
        cases o with
        |cells c e f=>
         obtain⟨cI,ei,gN,iZ,mE,qF,l9⟩:=b9;have xG:=az.1;have iv:=YK (P:=P) L.r off e f kD 0 c w a6 (by omega) (fun j ba=>by
          simp only[ta];exact UB l9 (by omega) (by omega)) (fun v vN=>by
          obtain⟨i,ao⟩:=kj.1 vN;have sA:i<vs.length:=by
           have:=(dX.1 ao).1;omega
          have:=az.2 i vs[i] v (de sA) ao;rw[this.eQ];exact s8.1 aH.2 _ (Jo sA))
         simp only[ta] at iv;have au:kg P μ L (.row cells' elem opn bM eB sh) (.cells (qI c off kD) e f):=by
          refine⟨cI,by rw[Re];exact ei,gN,by omega,fun ar=>by have:=mE ar;omega,?_,l9⟩;intro i v v' ao hi';rw[LW _ _ _ _ (by omega)] at hi';rw[zU] at ao;rw[<-xG] at hi';split at ao
          ·rename_i tQ;rw[aE tQ] at hi';exact az.2 _ v v' ao hi'
          ·rename_i tQ;rw[ap tQ] at hi';exact qF i v v' ao hi'
         exact⟨_,iv,h.aab bT rk hm s1 hu he au⟩
        |_=>exact b9.elim
    |_=>cases he
end
end
end Go.Cre
namespace Go.Cre
noncomputable section
open Go.RowKit
section
variable {P:Program}{B:Nat->Prop}{w0 w:World}{μ:b1}{H H':aB}
theorem bF.o6{a:Addr}{v:Value}(h:bF μ (.pointer (some a)) v):∃id off L,a=⟨id,off,none⟩/\μ id=some L/\v=.pointer (some ⟨L.r,off,none⟩):=by
 cases h with
 |atom _ h=>simp[isAtom] at h
 |ptr id off L bT=>exact⟨id,off,L,rfl,bT,rfl⟩
theorem bF.Cl{a:Addr}{len cap:Nat}{v:Value}(h:bF μ (.slice (some a) len cap) v):∃bY eg,v=.slice (some bY) len eg:=by
 cases h with
 |atom _ h=>simp[isAtom] at h
 |nP id off len cap L bT aH=>exact⟨_,_,rfl⟩
 |pL id off len cap L bT aH nF=>exact⟨_,_,rfl⟩
 |v8 id off gb L bT=>exact⟨_,_,rfl⟩
 |x3 a=>exact⟨_,_,rfl⟩
theorem bF.anF{a:Addr}{len cap:Nat}{v:Value}(h:bF μ (.slice (some a) len cap) v)(aH:cap≠c9):∃bY,v=.slice (some bY) len cap:=by
 cases h with
 |atom _ h=>simp[isAtom] at h
 |nP id off len cap L bT aH=>exact⟨_,rfl⟩
 |pL id off len cap L bT aH nF=>exact absurd rfl aH
 |v8 id off gb L bT=>exact absurd rfl aH
 |x3 a=>exact⟨_,rfl⟩
theorem bF.x4{a:Addr}{len cap:Nat}{v:Value}(h:bF μ (.slice (some a) len cap) v)(af:a.spot=none\/0<len\/0<cap):
 ∃id off L gb eg,a=⟨id,off,none⟩/\μ id=some L/\v=.slice (some ⟨L.r,gb,none⟩) len eg/\(0<len->gb=off)/\len<=max len eg/\
  ((cap<c9/\eg=cap/\gb=off)\/(cap=c9/\len<=eg/\gb=off/\off+eg*L.sz<=L.N)\/(cap=c9/\len=0/\eg=0)):=by
 cases h with
 |atom _ h=>simp[isAtom] at h
 |nP id off len cap L bT aH=>exact⟨id,off,L,off,cap,rfl,bT,rfl,fun _=>rfl,by omega,.inl ⟨aH,rfl,rfl⟩⟩
 |pL id off len cap L bT aH nF=>exact⟨id,off,L,off,cap,rfl,bT,rfl,fun _=>rfl,by omega,.inr (.inl ⟨rfl,aH,rfl,nF⟩)⟩
 |v8 id off gb L bT=>exact⟨id,off,L,gb,0,rfl,bT,rfl,fun h=>absurd h (by omega),by omega,.inr (.inr ⟨rfl,rfl,rfl⟩)⟩
 |x3 a=>rcases af with q|q|q<;>cases q
theorem bF.uI{len cap:Nat}{v:Value}(h:bF μ (.slice none len cap) v):v=.slice none len cap:=by cases h;rfl
theorem bF.EM{v:Value}(h:bF μ (.pointer none) v):v=.pointer none:=by cases h;rfl
theorem bF.H7{r:Nat}{v:Value}(h:bF μ (.map (some r)) v):∃L,μ r=some L/\v=.map (some L.r):=by
 cases h with
 |atom _ h=>simp[isAtom] at h
 |map id L bT=>exact⟨L,bT,rfl⟩
theorem bF.H8{v:Value}(h:bF μ (.map none) v):v=.map none:=by cases h;rfl
theorem bF.xJ{t:TypeId}{x v:Value}(h:bF μ (.iface t x) v):∃dT,v=.iface t dT/\bF μ x dT:=by
 cases h with
 |atom _ h=>simp[isAtom] at h
 |iface t v v' h=>exact⟨v',rfl,h⟩
theorem bF.Ij{v:Value}(h:bF μ .nilIface v):v=.nilIface:=by cases h;rfl
theorem bF.Lk{v:Value}(h:bF μ .nilFunc v):v=.nilFunc:=by cases h;rfl
theorem kC{t:TypeId}{n:Nat}(h:ej P t=some n)(w:World):(sizeOf t).run P w=.ok n w:=by
 unfold ej at h;cases ao:P.info? t with
 |none=>rw[ao] at h;cases h
 |some i=>rw[ao] at h;injection h with h;subst h;simp[sizeOf,typeInfo,ao]
theorem Rd{t:TypeId}{n:Nat}(h:ej P t=some n):P.cellsOf t=n:=by
 unfold ej at h;cases ao:P.info? t with
 |none=>rw[ao] at h;cases h
 |some i=>rw[ao] at h;injection h with h;subst h;simp[Program.cellsOf,ao]
theorem yh{t:TypeId}{z:Value}(h:fw P t=some z)(w:World):(zeroValue t).run P w=.ok z w:=by
 unfold fw at h;cases ao:P.info? t with
 |none=>rw[ao] at h;cases h
 |some i=>rw[ao] at h;simp only at h;simp[zeroValue,typeInfo,ao,h]
theorem eY{t:TypeId}{d:TypeDesc}(h:P.underlying t=some d)(w:World):(underlying t).run P w=.ok d w:=by
 simp[underlying,h]
theorem SL{t:TypeId}{n:Nat}(h:r6 P t=some (some n)):(∀w,(isAgg t).run P w=.ok true w)/\ej P t=some n:=by
 unfold r6 at h;cases ao:P.info? t with
 |none=>rw[ao] at h;cases h
 |some i=>
  rw[ao] at h;simp only at h;refine⟨fun w=>?_,?_⟩
  ·cases hu:P.underlying t with
   |none=>rw[hu] at h;cases h
   |some d=>rw[hu] at h;cases d<;>first|(simp[isAgg,underlying,hu];done)|(simp at h)
  ·cases hu:P.underlying t with
   |none=>rw[hu] at h;cases h
   |some d=>rw[hu] at h;cases d<;>first|(simp at h;simp[ej,ao,h];done)|(simp at h)
theorem SK{t:TypeId}(h:r6 P t=some none):∀w,(isAgg t).run P w=.ok false w:=by
 unfold r6 at h;cases ao:P.info? t with
 |none=>rw[ao] at h;cases h
 |some i=>
  rw[ao] at h;simp only at h;intro w;cases hu:P.underlying t with
  |none=>rw[hu] at h;cases h
  |some d=>rw[hu] at h;cases d<;>first|(simp[isAgg,underlying,hu];done)|(simp at h)
theorem Uo{t:TypeId}{cs cT:List Value}{off:Nat}{v:Value}(ay:b4 μ cs cT)(he:mo P t cs off=some v)(w:World):
 ∃v',(part t cT.toArray off).run P w=.ok v' w/\bF μ v v':=by
 unfold mo at he;cases a':r6 P t with
 |none=>rw[a'] at he;cases he
 |some q=>
  rw[a'] at he;cases q with
  |none=>
   simp only[kR] at he;obtain⟨v',aa,ae⟩:=ay.get he;refine⟨v',?_,ae⟩;simp[part,SK a',aa]
  |some n=>
   simp only[wY] at he;obtain⟨aa,ae⟩:=SL a';cases aD:takeN n (cs.drop off) with
   |none=>rw[aD] at he;cases he
   |some l=>
    rw[aD] at he;injection he with he;subst he
    obtain⟨aN,bn,cP⟩:=E4 aD;refine⟨.agg ((cT.drop off).take n).toArray,?_,?_⟩
    ·simp[part,aa,kC ae]
    ·rw[aN];exact bF.JD ((ay.drop off).take n)
theorem ca.row(h:ca P B w0 μ H w){id:Nat}{L:Loc}{cells:List Value}{elem:TypeId}{opn:Bool}{bM eB:Nat}{sh:Bool}(bT:μ id=some L)(hm:H.mem.get id=some (.row cells elem opn bM eB sh)):
 ∃c f,w.heap[L.r]?=some (.cells c elem f)/\c.size=L.N/\P.cellsOf elem=L.sz/\cells.length<=L.N/\(opn=false->cells.length=L.N)/\b4 μ cells (c.toList.take cells.length)/\NO L.N eB sh f:=by
 obtain⟨b,o,bd,a6,b9⟩:=h.fP id L bT;rw[hm] at bd;injection bd with bd;subst bd
 cases o with
 |cells c e f=>
  obtain⟨rfl,ei,gN,iZ,mE,qF,l9⟩:=b9;refine⟨c,f,a6,ei,gN,iZ,mE,⟨by simp;omega,fun i v v' a b=>?_⟩,l9⟩;rw[kI] at b;split at b
  ·exact qF i v v' a (by simpa using b)
  ·cases b
 |_=>exact b9.elim
theorem ca.map(h:ca P B w0 μ H w){id:Nat}{L:Loc}{es:List MapEntry}{clock:Nat}(bT:μ id=some L)(hm:H.mem.get id=some (.map es clock)):
 ∃mn JW,w.heap[L.r]?=some (.map mn JW)/\An μ es mn.toList:=by
 obtain⟨b,o,bd,a6,b9⟩:=h.fP id L bT;rw[hm] at bd;injection bd with bd;subst bd
 cases o with
 |map mn ch=>exact⟨mn,ch,a6,b9⟩
 |_=>exact b9.elim
theorem ca.cells(h:ca P B w0 μ H w){id:Nat}{L:Loc}{cells:List Value}{elem:TypeId}{opn:Bool}{bM eB:Nat}{sh:Bool}(bT:μ id=some L)(hm:H.mem.get id=some (.row cells elem opn bM eB sh))
 {off n:Nat}{l:List Value}(aD:takeN n (oG off cells)=some l):∃l',b4 μ l l'/\l'.length=n/\(∀j v,l'[j]?=some v->w.cell? ⟨L.r,off+j,none⟩=some v):=by
 obtain⟨c,f,aa,ae,aG,br,eu,gK,ks⟩:=h.row bT hm;obtain⟨aN,bn,cP⟩:=E4 aD;rw[wY] at aN cP;refine⟨((c.toList.take cells.length).drop off).take n,?_,?_,?_⟩
 ·rw[aN];exact(gK.drop off).take n
 ·have:=((gK.drop off).take n).1;rw[<-aN,bn] at this;exact this.symm
 ·intro j v ba;rw[kI] at ba;split at ba
  ·rw[pY,kI] at ba;split at ba
   ·rw[cell_of_row aa];simpa using ba
   ·cases ba
  ·cases ba
theorem Ul(h:ca P B w0 μ H w){t:TypeId}{id off:Nat}{L:Loc}{v:Value}(bT:μ id=some L)(he:Dx P H t ⟨id,off,none⟩=some v):
 ∃v',(loadVar t ⟨L.r,off,none⟩).run P w=.ok v' w/\bF μ v v':=by
 simp only[Dx] at he;cases hm:H.mem.get id with
 |none=>rw[hm] at he;cases he
 |some b=>
  rw[hm] at he;cases b with
  |row cells elem opn bM eB sh=>
   simp only at he;unfold mo at he;cases a':r6 P t with
   |none=>rw[a'] at he;cases he
   |some q=>
    rw[a'] at he;cases q with
    |none=>
     simp only[kR] at he;obtain⟨c,f,aa,ae,aG,br,eu,gK,ks⟩:=h.row bT hm;obtain⟨v',g1,g2⟩:=gK.get he;refine⟨v',?_,g2⟩;rw[kI] at g1;split at g1
     ·have:w.cell? ⟨L.r,off,none⟩=some v':=by rw[cell_of_row aa];simpa using g1
      simp[loadVar,SK a',load,Sem.run,this]
     ·cases g1
    |some n=>
     obtain⟨aa,ae⟩:=SL a';simp only at he;cases aD:takeN n (oG off cells) with
     |none=>rw[aD] at he;cases he
     |some l=>
      rw[aD] at he;injection he with he;subst he
      obtain⟨l',g1,g2,g3⟩:=h.cells bT hm aD;refine⟨.agg l'.toArray,?_,bF.JD g1⟩;have:=run_loadCells_list (P:=P) w ⟨L.r,off,none⟩ l' (fun j v ba=>by rw[Addr.q3];exact g3 j v ba);rw[g2] at this;simp[loadVar,aa,kC ae,this]
  |_=>cases he
theorem aeq(h:ca P B w0 μ H w){t:TypeId}{p hO v:Value}(aw:bF μ p hO)(he:AS P H t p=some v):
 ∃v',(Instr.loadAt t hO).run P w=.ok v' w/\bF μ v v':=by
 unfold AS at he;cases p with
 |pointer a=>
  cases a with
  |none=>simp at he
  |some a=>
   obtain⟨id,off,L,rfl,bT,rfl⟩:=aw.o6;simp only at he;obtain⟨v',aa,ae⟩:=Ul h bT he;exact⟨v',by simp[Instr.loadAt,Instr.sureAddr,aa],ae⟩
 |_=>simp at he
theorem aez(h:ca P B w0 μ H w){t:TypeId}{p hO v v':Value}(aw:bF μ p hO)(az:bF μ v v')(he:AT P H t p v=some H'):
 ∃bu,(Instr.storeAt t hO v').run P w=.ok () bu/\ca P B w0 μ H' bu/\Step μ μ H H':=by
 unfold AT at he;cases p with
 |pointer a=>
  cases a with
  |none=>simp at he
  |some a=>
   obtain⟨id,off,L,rfl,bT,rfl⟩:=aw.o6;simp only at he;cases af:ej P t with
   |none=>rw[af] at he;cases he
   |some n=>
    rw[af] at he;simp only at he;cases au:Nat.beq v.cells.toList.length n with
    |false=>rw[au] at he;cases he
    |true=>
     rw[au,cb] at he;obtain⟨bu,aa,ae,aG⟩:=NB h bT az.cells he;have aP:=eN au;have av:=az.cells.1;refine⟨bu,?_,ae,aG⟩;have eU:v'.cells.size=n:=by simp at av aP;omega
     simp[Instr.storeAt,Instr.sureAddr,storeVar,kC af,eU,aa]
 |_=>simp at he
theorem aa4{l l':List Value}(h:b4 μ l l')(a':l.all eQ=true):∀v∈l',eQ v=true:=fun v az=>by
 obtain⟨i,ao⟩:=kj.1 az;have sA:i<l.length:=by have:=(dX.1 ao).1;have:=h.1;omega
 rw[(h.2 i l[i] v (de sA) ao).eQ];exact s8.1 a' _ (Jo sA)
theorem Qr(h:ca P B w0 μ H w){elem:TypeId}{cells cells':List Value}{id:Nat}(aH:b4 μ cells cells')(aP:uu H elem cells=some (id,H')):
 ∃bI L,ca P B w0 bI H' (w.alloc (.cells cells'.toArray elem))/\Step μ bI H H'/\bI id=some L/\L.r=w.heap.size/\L.N=cells.length/\L.sz=P.cellsOf elem:=by
 have au:kg P (μ.put H.ak ⟨w.heap.size,cells.length,P.cellsOf elem⟩) ⟨w.heap.size,cells.length,P.cellsOf elem⟩ (.row cells elem false 0 0 false) (.cells cells'.toArray elem):=by
  refine⟨rfl,by simp[aH.1],rfl,cZ _,fun _=>rfl,fun i v v' a b=>?_,?_⟩
  ·exact(aH.2 i v v' a (by simpa using b)).mono (h.w8 _)
  ·exact⟨fun off _ aa ae=>by simp at ae,fun _=>.inl rfl⟩
 obtain⟨a,b,rfl⟩:=h.made aP rfl rfl au;exact⟨_,_,a,b,b1.kT _ _ _,rfl,rfl,rfl⟩
theorem Uh(h:ca P B w0 μ H w){elem:TypeId}{v v' r:Value}(az:bF μ v v')(he:w4 H elem v=some (r,H')):
 ∃dw bu bI,(Instr.box elem v').run P w=.ok dw bu/\ca P B w0 bI H' bu/\Step μ bI H H'/\bF bI r dw:=by
 unfold w4 at he;cases ar:v.cells.toList.all eQ with
 |false=>rw[ar] at he;cases he
 |true=>
  rw[ar,cb] at he;cases aP:uu H elem v.cells.toList with
  |none=>rw[aP] at he;cases he
  |some p=>
   obtain⟨id,H1⟩:=p;rw[aP] at he;simp only[cp,dC] at he;obtain⟨rfl,rfl⟩:=he;obtain⟨bI,L,a,b,c,d,_⟩:=Qr h az.cells aP;refine⟨.pointer (some ⟨w.heap.size,0,none⟩),_,bI,?_,a,b,?_⟩
   ·simp[Instr.box,newVar,newRow,newObj,Sem.run]
   ·rw[<-d];exact .ptr id 0 L c
theorem aem{s:TypeId}{p hO v:Value}{f:Nat}(aw:bF μ p hO)(he:Gv P s p f=some v)(w:World):
 ∃v',(Instr.fieldAt s hO f).run P w=.ok v' w/\bF μ v v':=by
 unfold Gv at he;cases p with
 |pointer a=>
  cases a with
  |none=>simp at he
  |some a=>
   obtain⟨id,off,L,rfl,bT,rfl⟩:=aw.o6;simp only at he;cases hu:P.underlying s with
   |none=>rw[hu] at he;cases he
   |some d=>
    rw[hu] at he;cases d with
    |struct fields=>
     simp only at he;cases aC:fields[f]? with
     |none=>rw[aC] at he;cases he
     |some fd=>
      rw[aC] at he;simp only at he;cases af:ej P fd.type with
      |none=>rw[af] at he;cases he
      |some n=>
       rw[af] at he;cases n with
       |zero=>cases he
       |succ n=>
        simp only[cp] at he;subst he;refine⟨.pointer (some ⟨L.r,off+fd.offset,none⟩),?_,.ptr id _ L bT⟩;simp[Instr.fieldAt,eY hu,aC,Instr.sureAddr,fieldPlace,kC af,Addr.q3]
    |_=>cases he
 |_=>simp at he
theorem P4{i:Int}{len n:Nat}(h:uj i len=some n):i=(n:Int)/\n<len:=by
 unfold uj at h;cases i with
 |ofNat m=>
  simp only at h;cases au:Nat.blt m len with
  |false=>rw[au] at h;cases h
  |true=>
   rw[au,cb] at h;injection h with h;subst h
   exact⟨rfl,h3 au⟩
 |negSucc m=>cases h
theorem En{i:Int}{len n:Nat}(h:qt i len=some n):i=(n:Int)/\n<=len:=by
 unfold qt at h;cases i with
 |ofNat m=>
  simp only at h;cases au:Nat.ble m len with
  |false=>rw[au] at h;cases h
  |true=>
   rw[au,cb] at h;injection h with h;subst h
   exact⟨rfl,h3 au⟩
 |negSucc m=>cases h
theorem bF.qu{k:IntKind}{n:Int}{v:Value}(h:bF μ (.int k n) v):v=.int k n:=by
 cases h;rfl
theorem bF.FY{b:Bool}{v:Value}(h:bF μ (.bool b) v):v=.bool b:=by cases h;rfl
theorem bF.IS{s:ByteArray}{v:Value}(h:bF μ (.string s) v):v=.string s:=by cases h;rfl
theorem aen{t:TypeId}{x dT aX WS v:Value}(U:bF μ x dT)(ao:bF μ aX WS)(he:AR P t x aX=some v)(w:World):
 ∃v',(Instr.indexAt t dT WS).run P w=.ok v' w/\bF μ v v':=by
 unfold AR at he;cases aX with
 |int k i=>
  obtain rfl:=ao.qu;simp only at he;cases hu:P.underlying t with
  |none=>rw[hu] at he;simp at he
  |some d=>
   rw[hu] at he;cases d with
   |array len elem=>
    cases x with
    |pointer a=>
     cases a with
     |none=>simp at he
     |some a=>
        obtain⟨id,off,L,rfl,bT,rfl⟩:=U.o6;simp only at he;cases aP:uj i len with
        |none=>rw[aP] at he;simp at he
        |some n=>
         rw[aP] at he;cases af:ej P elem with
         |none=>rw[af] at he;simp at he
         |some sz=>
          rw[af] at he;simp only[cp] at he;subst he;obtain⟨rfl,c4⟩:=P4 aP;refine⟨.pointer (some ⟨L.r,off+n*sz,none⟩),?_,.ptr id _ L bT⟩;simp[Instr.indexAt,asIntOf,eY hu,Instr.sureAddr,kC af,c4,Addr.q3]
    |_=>simp at he
   |slice elem=>
    cases x with
    |slice a len cap=>
     cases a with
     |none=>simp at he
     |some a=>
        have lb:a.spot=none:=by
         cases q:a.spot with
         |none=>rfl
         |some _=>simp[q] at he
        obtain⟨id,off,L,gb,eg,rfl,bT,rfl,ar,_,_⟩:=U.x4 (.inl lb);simp only at he;cases aP:uj i len with
        |none=>rw[aP] at he;simp at he
        |some n=>
         rw[aP] at he;cases af:ej P elem with
         |none=>rw[af] at he;simp at he
         |some sz=>
          rw[af] at he;simp only[cp] at he;subst he;obtain⟨rfl,c4⟩:=P4 aP;rw[ar (by omega)];refine⟨.pointer (some ⟨L.r,off+n*sz,none⟩),?_,.ptr id _ L bT⟩;simp[Instr.indexAt,asIntOf,eY hu,kC af,c4,Addr.q3]
    |_=>simp at he
   |_=>simp at he
 |_=>simp at he
end
end
end Go.Cre
namespace Go.Cre
noncomputable section
open Go.RowKit
section
variable {P:Program}{B:Nat->Prop}{w0 w:World}{μ:b1}{H H':aB}
def Fy(μ:b1):Option Value->Option Value->Prop
 |none,none=>True
 |some v,some v'=>bF μ v v'
 |_,_=>False
theorem run_sliceBound{k:IntKind}{n y:Nat}(h:n<=y)(code:BoundsCode)(w:World):(Instr.sliceBound (.int k (n:Int)) y code).run P w=.ok n w:=by
 have:(n:Int)<=(y:Int):=by omega
 simp[Instr.sliceBound,asIntOf,this]
theorem F0{cm lo' ao hi':Option Value}(j9:Fy μ cm lo')(lB:Fy μ ao hi'){len top Ab h l:Nat}{Ep:Bool}(dE:lx len top ao=some h)(av:lx 0 h cm=some l)(aD:top<=Ab)(w:World):
 (Instr.sliceBounds Ep len Ab lo' hi' none).run P w=.ok (l,h,Ab) w/\l<=h/\(len<=Ab->h<=Ab):=by
 have aa:(ao=none/\hi'=none/\h=len)\/(∃k,ao=some (.int k h)/\hi'=some (.int k h)/\h<=top):=by
  cases ao with
  |none=>cases hi' with
   |none=>simp[lx] at dE;exact .inl ⟨rfl,rfl,dE.symm⟩
   |some v=>exact lB.elim
  |some v=>cases hi' with
   |none=>exact lB.elim
   |some v'=>
    cases v with
    |int k i=>
     obtain⟨rfl,hle⟩:=En (by simpa[lx] using dE);have:=bF.qu lB;subst this;exact .inr ⟨k,rfl,rfl,hle⟩
    |_=>simp[lx] at dE
 have ae:(cm=none/\lo'=none/\l=0)\/(∃k,cm=some (.int k l)/\lo'=some (.int k l)/\l<=h):=by
  cases cm with
  |none=>cases lo' with
   |none=>simp[lx] at av;exact .inl ⟨rfl,rfl,av.symm⟩
   |some v=>exact j9.elim
  |some v=>cases lo' with
   |none=>exact j9.elim
   |some v'=>
    cases v with
    |int k i=>
     obtain⟨rfl,hle⟩:=En (by simpa[lx] using av);have:=bF.qu j9;subst this;exact .inr ⟨k,rfl,rfl,hle⟩
    |_=>simp[lx] at av
 rcases aa with⟨_,rfl,rfl⟩|⟨k,_,rfl,aN⟩<;>rcases ae with⟨_,rfl,rfl⟩|⟨ft,_,rfl,bn⟩
 ·exact⟨by simp[Instr.sliceBounds],by omega,by omega⟩
 ·exact⟨by simp[Instr.sliceBounds,run_sliceBound bn],by omega,by omega⟩
 ·exact⟨by simp[Instr.sliceBounds,run_sliceBound (show h<=Ab by omega)],by omega,by omega⟩
 ·exact⟨by simp[Instr.sliceBounds,run_sliceBound (show h<=Ab by omega),run_sliceBound bn],by omega,by omega⟩
theorem MM{a b:Nat}(h:a≠b):Nat.beq a b=false:=by
 cases q:Nat.beq a b
 ·rfl
 ·exact absurd (eN q) h
theorem aey(h:ca P B w0 μ H w){t:TypeId}{x dT v:Value}{cm lo' ao hi':Option Value}(U:bF μ x dT)(j9:Fy μ cm lo')(lB:Fy μ ao hi')(he:oJ P H t x cm ao=some v):
 ∃v',(Instr.sliceAt t dT lo' hi' none).run P w=.ok v' w/\bF μ v v':=by
 unfold oJ at he;cases hu:P.underlying t with
 |none=>rw[hu] at he;simp at he
 |some d=>
  rw[hu] at he;cases d with
  |array n elem=>
   cases x with
   |pointer a=>
    cases a with
    |none=>simp at he
    |some a=>
     obtain⟨id,off,L,rfl,bT,rfl⟩:=U.o6;simp only at he;cases af:ej P elem with
     |none=>rw[af] at he;simp at he
     |some sz=>
      rw[af] at he;simp only at he;cases qd:Nat.blt n c9 with
      |false=>rw[qd] at he;simp at he
      |true=>
      rw[qd] at he;simp only[lK,dZ] at he;have ar6:n<c9:=h3 qd;cases dE:lx n n ao with
      |none=>rw[dE] at he;simp at he
      |some DY=>
       rw[dE] at he;simp only at he;cases av:lx 0 DY cm with
       |none=>rw[av] at he;simp at he
       |some l=>
        rw[av] at he;simp only[cp] at he;subst he;obtain⟨bm,bl,b8⟩:=F0 (P:=P) (Ep:=false) j9 lB dE av (cZ _) w;show ∃v',_/\bF μ (.slice (some (bif Nat.beq n l then _ else _)) (DY -l) (n -l)) v';by_cases cr:n=l
        ·subst cr;refine⟨.slice (some ⟨L.r,off,none⟩) (DY -n) (n -n),?_,?_⟩
         ·simp[Instr.sliceAt,eY hu,Instr.sureAddr,bm,kC af]
         ·rw[hA n,cb];exact .nP id off (DY -n) (n -n) L bT (by omega)
        ·refine⟨.slice (some ⟨L.r,off+l*sz,none⟩) (DY -l) (n -l),?_,?_⟩
         ·simp[Instr.sliceAt,eY hu,Instr.sureAddr,bm,kC af,cr,Addr.q3]
         ·rw[MM cr,dZ];exact .nP id (off+l*sz) (DY -l) (n -l) L bT (by omega)
   |_=>simp at he
  |slice elem=>
   cases x with
   |slice a len cap=>
    cases a with
    |none=>simp at he
    |some a=>
     have lb:a.spot=none:=by
      cases q:a.spot with
      |none=>rfl
      |some _=>simp[q] at he
     obtain⟨id,off,L,gb,eg,rfl,bT,rfl,ar,_,tR⟩:=U.x4 (.inl lb);simp only at he;cases af:ej P elem with
     |none=>rw[af] at he;simp at he
     |some sz=>
      rw[af] at he;simp only at he;by_cases dW:cap=c9
      ·subst dW;rw[hA,cb] at he;cases hm:H.mem.get id with
       |none=>rw[hm] at he;simp at he
       |some b=>
        rw[hm] at he;cases b with
        |row cells el opn bM eB sh=>
         simp only at he;cases jO:Nat.beq el elem with
         |false=>rw[jO] at he;simp at he
         |true=>
          rw[jO] at he;simp only[lK,dZ] at he;have:=eN jO;subst this;obtain⟨c,f,cI,ei,gN,iZ,mE,qF,l9⟩:=h.row bT hm;have eU:L.sz=sz:=by rw[<-gN];exact Rd af
          cases dE:lx len len ao with
          |none=>rw[dE] at he;simp at he
          |some g=>
           rw[dE] at he;simp only at he;cases av:lx 0 g cm with
           |none=>rw[av] at he;simp at he
           |some l=>
            rw[av] at he;simp only[cp] at he;subst he;show ∃v',_/\bF μ (.slice _ (g -l) c9) v';rcases tR with⟨bt,_,_⟩|⟨_,bw,rfl,dh⟩|⟨_,rfl,rfl⟩
            ·omega
            ·obtain⟨bm,bl,b8⟩:=F0 (P:=P) (Ep:=true) j9 lB dE av bw w;have aq:g<=len:=by
              have:=(F0 (P:=P) (Ep:=true) j9 lB dE av (cZ _) w).2.2;exact this (cZ _)
             by_cases D1:eg=l
             ·subst D1;refine⟨.slice (some ⟨L.r,gb,none⟩) (g -eg) (eg -eg),?_,?_⟩
              ·simp[Instr.sliceAt,Instr.slice,eY hu,bm,kC af]
              ·have aN:g -eg=0:=by omega
               rw[aN,tb];exact .v8 id _ gb L bT
             ·refine⟨.slice (some ⟨L.r,gb+l*sz,none⟩) (g -l) (eg -l),?_,?_⟩
              ·simp[Instr.sliceAt,Instr.slice,eY hu,bm,kC af,D1,Addr.q3]
              ·refine .pL id _ _ _ L bT (by omega) ?_;rw[eU] at dh ⊢;have:eg*sz=l*sz+(eg -l)*sz:=by rw[<-nr];congr 1;omega
               omega
            ·obtain⟨bm,bl,b8⟩:=F0 (P:=P) (Ep:=true) (Ab:=0) j9 lB dE av (cZ _) w;have:=b8 (cZ _);have aN:g=0:=by omega
             have bn:l=0:=by omega
             subst aN;subst bn;refine⟨.slice (some ⟨L.r,gb,none⟩) 0 0,?_,?_⟩
             ·simp[Instr.sliceAt,Instr.slice,eY hu,bm,kC af]
             ·exact .v8 id _ gb L bT
        |_=>simp at he
      ·rw[MM dW,dZ] at he;rcases tR with⟨bt,rfl,rfl⟩|⟨q,_⟩|⟨q,_⟩
       ·cases dE:lx len eg ao with
        |none=>rw[dE] at he;simp at he
        |some g=>
         rw[dE] at he;simp only at he;cases av:lx 0 g cm with
         |none=>rw[av] at he;simp at he
         |some l=>
          rw[av] at he;simp only[cp] at he;subst he;show ∃v',_/\bF μ (.slice (some (bif Nat.beq eg l then _ else _)) (g -l) (eg -l)) v';obtain⟨bm,bl,b8⟩:=F0 (P:=P) (Ep:=true) j9 lB dE av (cZ _) w;by_cases cr:eg=l
          ·subst cr;refine⟨.slice (some ⟨L.r,gb,none⟩) (g -eg) (eg -eg),?_,?_⟩
           ·simp[Instr.sliceAt,Instr.slice,eY hu,bm,kC af]
           ·rw[hA,cb];exact .nP id gb _ _ L bT (by omega)
          ·refine⟨.slice (some ⟨L.r,gb+l*sz,none⟩) (g -l) (eg -l),?_,?_⟩
           ·simp[Instr.sliceAt,Instr.slice,eY hu,bm,kC af,cr,Addr.q3]
           ·rw[MM cr,dZ];exact .nP id _ _ _ L bT (by omega)
       ·exact absurd q dW
       ·exact absurd q dW
   |_=>simp at he
  |_=>simp at he
theorem aaj(z:List Value):gG z 0=[]:=by
 rcases z with _|⟨a,_|⟨b,z⟩⟩<;>rfl
theorem RJ(z:List Value)(n:Nat):gG z (n+1)=z++gG z n:=by
 rcases z with _|⟨a,_|⟨b,z⟩⟩<;>rfl
theorem RI(z:List Value)(n:Nat):(gG z n).length=n*z.length:=by
 induction n with
 |zero=>simp[aaj]
 |succ n aK=>simp[RJ,aK,pe];omega
theorem apR(z:List Value)(n i:Nat)(h:i<n*z.length):(gG z n)[i]?=z[i % z.length]?:=by
 induction n generalizing i with
 |zero=>simp at h
 |succ n aK=>
  simp only[RJ];rw[Sh];split
  ·rename_i ao;rw[Nat.mod_eq_of_lt ao]
  ·rename_i ao;rw[aK (i -z.length) (by rw[pe] at h;omega)];congr 1
   exact(Nat.mod_eq_sub_mod (by omega)).symm
theorem Mh{z:List Value}{n:Nat}{v:Value}{p:Value->Prop}(h:v∈gG z n)(aw:∀u∈z,p u):p v:=by
 induction n with
 |zero=>simp[aaj] at h
 |succ m aK=>
  simp only[RJ,kX] at h;rcases h with h|h
  ·exact aw v h
  ·exact aK h
theorem MU{t:TypeId}{n:Nat}(h:vb P t=some n):∃i,P.info? t=some i/\i.bytes=n:=by
 unfold vb at h;cases ao:P.info? t with
 |none=>rw[ao] at h;cases h
 |some i=>rw[ao] at h;injection h with h;exact⟨i,rfl,h⟩
theorem Mi(z:List Value)(n:Nat):(Array.range (n*z.length)).map (fun i=>(z.toArray)[i % z.toArray.size]!)=(gG z n).toArray:=by
 apply Fi
 intro i;by_cases ao:i<n*z.length
 ·have bN:0<z.length:=by
   rcases Nat.eq_zero_or_pos z.length with q|q
   ·rw[q] at ao;simp at ao
   ·exact q
  have hm:i % z.length<z.length:=Nat.mod_lt _ bN;have e:(gG z n).toArray[i]?=z[i % z.length]?:=by rw[<-apR z n i ao];simp
  rw[e];simp[ao,hm]
 ·rw[s3 (by simp;omega),s3 (by simp[RI];omega)]
theorem qD{v:Value}(h:plain v=true):bF μ v v:=bF.ak' h
theorem B9{v v':Value}(h:plain v=true)(ay:bF μ v v'):v'=v:=bF.B9 h ay
theorem b4.IJ{l:List Value}(h:∀v∈l,bF μ v v):b4 μ l l:=⟨rfl,fun i v v' a b=>by
 rw[a] at b;injection b with b;subst b;exact h v (cd a)⟩
theorem aer(h:ca P B w0 μ H w){t:TypeId}{l l' c ch v:Value}(av:bF μ l l')(aH:bF μ c ch)(he:Gw P H t l c=some (v,H')):
 ∃v' bu bI,(Instr.makeSlice t l' ch).run P w=.ok v' bu/\ca P B w0 bI H' bu/\Step μ bI H H'/\bF bI v v':=by
 unfold Gw at he;cases l with
 |int bp l=>
  cases c with
  |int bC c=>
   obtain rfl:=av.qu;obtain rfl:=aH.qu;cases hu:P.underlying t with
   |none=>rw[hu] at he;simp at he
   |some d=>
    rw[hu] at he;cases d with
    |slice elem=>
     simp only at he;cases bN:fw P elem with
     |none=>rw[bN] at he;simp at he
     |some z=>
      rw[bN] at he;cases h':vb P elem with
      |none=>rw[h'] at he;simp at he
      |some gS=>
       rw[h'] at he;cases af:ej P elem with
       |none=>rw[af] at he;simp at he
       |some sz=>
        rw[af] at he;simp only at he;cases tQ:qt c 1000000 with
        |none=>rw[tQ] at he;simp at he
        |some aQ=>
         rw[tQ] at he;cases c6:qt l 1000000 with
         |none=>rw[c6] at he;simp at he
         |some BM=>
          rw[c6] at he;simp only at he;cases xj:(Nat.ble BM aQ&&Nat.ble gS 1000000&&Nat.beq z.cells.toList.length sz&&z.cells.toList.all eQ&&plain z) with
          |false=>rw[xj] at he;simp at he
          |true=>
           rw[xj,cb] at he;simp only[fU] at xj;obtain⟨⟨⟨⟨bd,a6⟩,b9⟩,fN⟩,kd⟩:=xj;have bd:=h3 bd;have a6:=h3 a6;have b9:=eN b9;obtain⟨rfl,ji⟩:=En tQ;obtain⟨rfl,Hj⟩:=En c6;cases aP:uu H elem (gG z.cells.toList aQ) with
           |none=>rw[aP] at he;simp at he
           |some p=>
            obtain⟨id,H1⟩:=p;rw[aP] at he;simp only[cp,dC] at he;obtain⟨rfl,rfl⟩:=he;have vP:b4 μ z.cells.toList z.cells.toList:=(qD kd).cells;have Bl:b4 μ (gG z.cells.toList aQ) (gG z.cells.toList aQ):=b4.IJ fun v az=>by
                exact Mh (p:=fun v=>bF μ v v) az (fun u hu=>by
                 obtain⟨i,ao⟩:=kj.1 hu;exact vP.2 i u u ao ao)
            obtain⟨bI,L,a,b,bt,d1,_⟩:=Qr h Bl aP;refine⟨.slice (some ⟨w.heap.size,0,none⟩) BM aQ,_,bI,?_,a,b,?_⟩
            ·obtain⟨i,ao,rfl⟩:=MU h'
             have xI:i.zero=some z:=by simpa[fw,ao] using bN
             have sH:i.size=sz:=by simpa[ej,ao] using af
             have hmul:i.bytes*aQ<=1000000*1000000:=Ss a6 ji;have lc:=Mi z.cells.toList aQ;have iv:=run_make (P:=P) w t elem i z hu ao xI bp bC (BM:Int) (aQ:Int) (by omega) (by omega) (by
                 have:(i.bytes:Int)*(aQ:Int)=((i.bytes*aQ:Nat):Int):=by simp
                 rw[this];omega) (by omega)
             rw[iv];simp only[cy];congr 3
             rw[<-lc];simp[madeCells,sH,<-b9]
            ·rw[<-d1];exact .nP id 0 BM aQ L bt (by have:(1000000:Nat)<c9:=by decide
                                                    omega)
    |_=>simp at he
  |_=>simp at he
 |_=>simp at he
end
end
end Go.Cre

/- A part of the proof of TableMetric. -/
import Derived.Test.YtmmfodofkbmfnaaGreatDoorCae
import Derived.Laws.IdiomCopy
set_option linter.unusedVariables false
set_option linter.unusedSimpArgs false
namespace Go.Cre
noncomputable section
open Go.RowKit
def l6(c:Array Value)(n:Nat):List Value->Array Value
 |[]=>c
 |v::vs=>l6 (c.setIfInBounds n v) (n+1) vs
theorem GW(vs:List Value):∀(c:Array Value) (n:Nat),(l6 c n vs).size=c.size:=by
 induction vs with
 |nil=>intro c n;rfl
 |cons v vs aN=>intro c n;rw[l6,aN];simp
theorem CI(vs:List Value):∀(c:Array Value) (n i:Nat),n+vs.length<=c.size->(l6 c n vs)[i]?=if n<=i/\i<n+vs.length then vs[i -n]? else c[i]?:=by
 induction vs with
 |nil=>intro c n i h;simp[l6];omega
 |cons v vs aN=>
  intro c n i h;simp only[kY] at h;rw[l6,aN _ _ _ (by simp;omega)];rw[sZ];by_cases U:n=i
  ·subst U;rw[a1 (by omega),bs rfl,bs (by omega),bs (by simp)];simp
  ·by_cases ab:n+1<=i/\i<n+1+vs.length
   ·rw[bs ab,bs (by simp;omega)];rw[show i -n=(i -(n+1))+1 from by omega,HS]
   ·rw[a1 ab,a1 U,a1 (by simp;omega)]
theorem WL(v:Value):v.oneCell'=dY v:=by cases v<;>rfl
theorem Addr.ml(b o i:Nat):(⟨b,o,none⟩:Addr).add i=⟨b,o+i,none⟩:=by
 unfold Addr.add;split<;>simp_all
section
variable {P:Program}
theorem cell_of_row{w:World}{r:Nat}{c:Array Value}{e:TypeId}{f:Nat×Nat}(h:w.heap[r]?=some (.cells c e f))(o:Nat):w.cell? ⟨r,o,none⟩=c[o]?:=by
 simp[World.cell?,h]
theorem frozen_of_row{w:World}{r:Nat}{c:Array Value}{e:TypeId}{f:Nat×Nat}(h:w.heap[r]?=some (.cells c e f))(o:Nat):w.frozen? ⟨r,o,none⟩=(decide (f.1<=o)&&decide (o<f.2)):=by
 simp[World.frozen?,h]
theorem M6{w:World}{r:Nat}{c:Array Value}{e:TypeId}{f:Nat×Nat}(h:w.heap[r]?=some (.cells c e f))(o:Nat)(v:Value):
 w.setCell ⟨r,o,none⟩ v={w with heap:=w.heap.setIfInBounds r (.cells (c.setIfInBounds o v) e f)}:=by
 have ap:r<w.heap.size:=by
  rcases gX r w.heap.size with cF|cF
  ·exact cF
  ·rw[nS cF] at h;cases h
 unfold World.setCell;congr 1
 apply xj
 intro i;rw[Ou,sZ];by_cases aq:r=i
 ·subst aq;rw[bs rfl,bs rfl,h,bs ap];rfl
 ·simp[aq]
theorem M1(r off:Nat)(e:TypeId)(f:Nat×Nat):∀(vs:List Value) (i:Nat) (c:Array Value) (w:World),w.heap[r]?=some (.cells c e f)->off+i+vs.length<=c.size->
 (∀aa,aa<vs.length->¬(f.1<=off+i+aa/\off+i+aa<f.2))->(∀v∈vs,dY v=true)->
 (storeCells ⟨r,off,none⟩ vs i).run P w=.ok () {w with heap:=w.heap.setIfInBounds r (.cells (l6 c (off+i) vs) e f)}:=by
 intro vs;induction vs with
 |nil=>
  intro i c w h _ _ _;have ap:r<w.heap.size:=by
   rcases gX r w.heap.size with cF|cF
   ·exact cF
   ·rw[nS cF] at h;cases h
  have:w.heap.setIfInBounds r (.cells c e f)=w.heap:=by
   apply xj
   intro aa;rw[sZ];split
   ·rename_i aX;subst aX;exact h.symm
   ·rfl
  simp[storeCells,l6,this]
 |cons v vs aN=>
  intro i c w h aw ay U;simp only[kY] at aw ay;have ap:r<w.heap.size:=by
   rcases gX r w.heap.size with cF|cF
   ·exact cF
   ·rw[nS cF] at h;cases h
  have dA:(store ((⟨r,off,none⟩:Addr).add i) v).run P w=.ok () (w.setCell ⟨r,off+i,none⟩ v):=by
   rw[Addr.ml,run_store P w _ v _ (by rw[WL];exact U v (by simp))];have a0:=ay 0 (by omega);have aF:w.cell? ⟨r,off+i,none⟩=some (c[off+i]'(by omega)):=by
    rw[cell_of_row h,u2 (by omega)]
   have BS:w.frozen? ⟨r,off+i,none⟩=false:=by
    rw[frozen_of_row h];simp only[n0] at a0;by_cases q:f.1<=off+i
    ·have:¬(off+i<f.2):=fun x=>a0 ⟨q,x⟩;simp[this]
    ·simp[q]
   simp[aF,BS]
  have hw:(w.setCell ⟨r,off+i,none⟩ v).heap[r]?=some (.cells (c.setIfInBounds (off+i) v) e f):=by
   rw[M6 h];show(w.heap.setIfInBounds r _)[r]?=_;rw[sZ];simp[ap]
  have:=aN (i+1) (c.setIfInBounds (off+i) v) (w.setCell ⟨r,off+i,none⟩ v) hw (by simp;omega) (fun aa aX=>by
   have:=ay (aa+1) (by omega);rwa [show off+i+(aa+1)=off+(i+1)+aa from by omega] at this) (fun x j=>U x (by simp[j]))
  simp only[storeCells,Sem.run_bind,dA,Result.andThen_ok,this,l6];rw[M6 h,show off+(i+1)=off+i+1 from by omega];congr 2
  show(w.heap.setIfInBounds r _).setIfInBounds r _=_;apply xj
  intro aa;simp only[sZ,Ag];split<;>rfl
variable {B:Nat->Prop}{w0 w:World}{μ:bm}{H H':ah}
theorem JE{N du:Nat}{sh:Bool}{f:Nat×Nat}(h:Ee N du sh f){o:Nat}(ae:o<N)(a0:du<=o):¬(f.1<=o/\o<f.2):=fun q=>by
 have:=h.1 o ae q.1 q.2;omega
theorem bz.Od(h:bz P B w0 μ H w){id ba du Eg:Nat}{L:Loc}{cells cells':List Value}{elem:TypeId}{opn sh:Bool}{o':Obj}{H1:ah}(bD:μ id=some L)(mB:H.bf<=id)(hm:H.mem.get id=some (.row cells elem opn ba du sh))
 (s1:cells'.length=cells.length)(hu:H.upd id (.row cells' elem opn ba Eg sh)=some H1)(he:(bif opn then su H1 id ba else some H1)=some H')(af:hl P μ L (.row cells' elem opn ba Eg sh) o'):
 bz P B w0 μ H' {w with heap:=w.heap.setIfInBounds L.r o'}/\Step μ μ H H':=by
 obtain⟨jS,mY,p0,zX,nN⟩:=ah.rm hu;have py:H.mem.get id≠some .dead:=by rw[hm];simp
 cases opn with
 |false=>
  simp only[cZ] at he;injection he with he;subst he
  refine h.write bD mB py jS p0 zX (by rw[nN];simp) (fun x j=>.inl (by rw[nN,a1 j])) ?_ (fun f l aw=>.inl (by rw[mY];exact aw)) (fun f l aw=>.inl (by rw[<-mY];exact aw))
   (fun c e f z s q=>by injection q with _ _ q;cases q) (fun q=>by rw[hm] at q;simp[hM] at q) af
  intro x bn j pq ap;rcases h.sep id x L bn (Ne.symm j) bD pq ap.symm with d|d|⟨cd,l,⟨bE,aA,dw,CF,q⟩,_⟩
  ·exact absurd d py
  ·rw[nN,a1 j];exact d
  ·rw[hm] at q;injection q with q;injection q with _ _ q;cases q
 |true=>
  simp only[bH] at he;unfold su at he;cases ay:H1.ba.get ba with
  |none=>rw[ay] at he;cases he
  |some l=>
   rw[ay] at he;simp only at he;cases hk:nA H1 id l with
   |none=>rw[hk] at he;cases he
   |some bG=>
    rw[hk] at he;simp only at he;obtain⟨a8,a5,bI,cL,gy,kq⟩:=B0 hk;obtain⟨b4,b0,cI,eM,eH⟩:=ah.w4 he;have kM:H.ba.get ba=some l:=by rw[<-mY];exact ay
    have tW:H'.mem.get id=some (.row cells' elem true ba Eg sh):=by rw[b0,kq id (.inr rfl),nN];simp
    have KL:∀x,x≠id->x∉l->H'.mem.get x=H.mem.get x:=fun x j jL=>by rw[b0,kq x (.inl jL),nN,a1 j]
    have r':∀x,x≠id->x∈l->H'.mem.get x=some .dead:=fun x j jL=>by rw[b0];exact gy x jL j
    refine h.write bD mB py (by omega) (by omega) (by omega) tW ?_ ?_ ?_ ?_ ?_ (fun _=>rfl) af
    ·intro x j;by_cases jL:x∈l
     ·exact .inr ⟨r' x j jL,(h.im ba l x kM jL).2⟩
     ·exact .inl (KL x j jL)
    ·intro x bn j pq ap;rcases h.sep id x L bn (Ne.symm j) bD pq ap.symm with d|d|⟨cd,l',⟨bE,aA,dw,CF,q⟩,_,cY,_,gz⟩
     ·exact absurd d py
     ·by_cases jL:x∈l
      ·exact r' x j jL
      ·rw[KL x j jL];exact d
     ·rw[hm] at q;injection q with q;injection q with _ _ _ q;subst q
      rw[kM] at cY;injection cY with cY;subst cY
      exact r' x j gz
    ·intro cd l' cY;by_cases lP:cd=ba
     ·subst lP;rw[kM] at cY;injection cY with cY;subst cY
      right
      intro x y j aC dy;by_cases hg:x=id
      ·right;exact r' y (fun e=>dy (by rw[hg,e])) aC
      ·left;exact r' x hg j
     ·left;rw[eH,a1 lP,a5,mY];exact cY
    ·intro cd l' cY;rw[eH] at cY;split at cY
     ·injection cY with cY;right;exact⟨cY.symm,rfl⟩
     ·left;rw[a5,mY] at cY;exact cY
    ·intro bE aA f1 dw CF q;injection q with lm _ _ q;subst q;subst lm
     exact⟨_,_,_,_,hm,s1.symm⟩
theorem Ba(h:bz P B w0 μ H w){id off:Nat}{L:Loc}{vs jU:List Value}(bD:μ id=some L)(aD:bp μ vs jU)(he:ni H id off vs=some H'):
 ∃aZ,(storeCells ⟨L.r,off,none⟩ jU).run P w=.ok () aZ/\bz P B w0 μ H' aZ/\Step μ μ H H':=by
 unfold ni at he;cases vs with
 |nil=>
  injection he with he;subst he
  have:=aD.ie;subst this;exact⟨w,rfl,h,Step.refl _ _⟩
 |cons ig N1=>
  simp only at he;generalize K4:ig::N1=vs at*;cases ar:Nat.blt id H.bf with
  |true=>rw[ar] at he;cases he
  |false=>
   rw[ar,cZ] at he;have mB:H.bf<=id:=by
    have:¬id<H.bf:=fun q=>by have:=jx q;unfold Nat.blt at ar;simp_all
    omega
   cases hm:H.mem.get id with
   |none=>rw[hm] at he;cases he
   |some b=>
    rw[hm] at he;cases b with
    |row cells elem opn ba du sh=>
     simp only at he;cases aF:(Nat.ble du off&&vs.all dY) with
     |false=>rw[aF] at he;cases he
     |true=>
      rw[aF,bH] at he;simp only[eT] at aF;have TN:=fV aF.1;cases ag:fD off cells vs with
      |none=>rw[ag] at he;cases he
      |some cells'=>
       rw[ag] at he;simp only at he;cases hu:H.upd id (.row cells' elem opn ba du sh) with
       |none=>rw[hu] at he;cases he
       |some H1=>
        rw[hu] at he;simp only at he;obtain⟨s1,s2,iP⟩:=GX ag;obtain⟨b,o,aQ,aP,bC⟩:=h.eG id L bD;rw[hm] at aQ;injection aQ with aQ;subst aQ
        cases o with
        |cells c e f=>
         obtain⟨cJ,cW,eE,hD,oQ,Cy,zQ⟩:=bC;have FM:=aD.1;have e4:=M1 (P:=P) L.r off e f jU 0 c w aP (by omega) (fun aa aX=>by
          simp only[n0];exact JE zQ (by omega) (by omega)) (fun v qR=>by
          obtain⟨i,aq⟩:=vc.1 qR;have yK:i<vs.length:=by
           have:=(h4.1 aq).1;omega
          have:=aD.2 i vs[i] v (fx yK) aq;rw[this.dY];exact o2.1 aF.2 _ (List.getElem_mem yK))
         simp only[n0] at e4;have af:hl P μ L (.row cells' elem opn ba du sh) (.cells (l6 c off jU) e f):=by
          refine⟨cJ,by rw[GW];exact cW,eE,by omega,fun ae=>by have:=oQ ae;omega,?_,zQ⟩;intro i v v' aq iJ;rw[CI _ _ _ _ (by omega)] at iJ;rw[iP] at aq;rw[<-FM] at iJ;split at aq
          ·rename_i oi;rw[bs oi] at iJ;exact aD.2 _ v v' aq iJ
          ·rename_i oi;rw[a1 oi] at iJ;exact Cy i v v' aq iJ
         exact⟨_,e4,h.Od bD mB hm s1 hu he af⟩
        |_=>exact bC.elim
    |_=>cases he
end
end
end Go.Cre
namespace Go.Cre
noncomputable section
open Go.RowKit
section
variable {P:Program}{B:Nat->Prop}{w0 w:World}{μ:bm}{H H':ah}
theorem a3.kS{a:Addr}{v:Value}(h:a3 μ (.pointer (some a)) v):∃id off L,a=⟨id,off,none⟩/\μ id=some L/\v=.pointer (some ⟨L.r,off,none⟩):=by
 cases h with
 |atom _ h=>simp[isAtom] at h
 |ptr id off L bD=>exact⟨id,off,L,rfl,bD,rfl⟩
theorem a3.sR{a:Addr}{len cap:Nat}{v:Value}(h:a3 μ (.slice (some a) len cap) v):∃bA c',v=.slice (some bA) len c':=by
 cases h with
 |atom _ h=>simp[isAtom] at h
 |kb id off len cap L bD aF=>exact⟨_,_,rfl⟩
 |lo id off len cap L bD aF pr=>exact⟨_,_,rfl⟩
 |pX id off eB L bD=>exact⟨_,_,rfl⟩
 |rj a=>exact⟨_,_,rfl⟩
theorem a3.Yt{a:Addr}{len cap:Nat}{v:Value}(h:a3 μ (.slice (some a) len cap) v)(aF:cap≠cf):∃bA,v=.slice (some bA) len cap:=by
 cases h with
 |atom _ h=>simp[isAtom] at h
 |kb id off len cap L bD aF=>exact⟨_,rfl⟩
 |lo id off len cap L bD aF pr=>exact absurd rfl aF
 |pX id off eB L bD=>exact absurd rfl aF
 |rj a=>exact⟨_,rfl⟩
theorem a3.pY{a:Addr}{len cap:Nat}{v:Value}(h:a3 μ (.slice (some a) len cap) v)(ag:a.spot=none\/0<len\/0<cap):
 ∃id off L eB c',a=⟨id,off,none⟩/\μ id=some L/\v=.slice (some ⟨L.r,eB,none⟩) len c'/\(0<len->eB=off)/\len<=max len c'/\
  ((cap<cf/\c'=cap/\eB=off)\/(cap=cf/\len<=c'/\eB=off/\off+c'*L.sz<=L.N)\/(cap=cf/\len=0/\c'=0)):=by
 cases h with
 |atom _ h=>simp[isAtom] at h
 |kb id off len cap L bD aF=>exact⟨id,off,L,off,cap,rfl,bD,rfl,fun _=>rfl,by omega,.inl ⟨aF,rfl,rfl⟩⟩
 |lo id off len cap L bD aF pr=>exact⟨id,off,L,off,cap,rfl,bD,rfl,fun _=>rfl,by omega,.inr (.inl ⟨rfl,aF,rfl,pr⟩)⟩
 |pX id off eB L bD=>exact⟨id,off,L,eB,0,rfl,bD,rfl,fun h=>absurd h (by omega),by omega,.inr (.inr ⟨rfl,rfl,rfl⟩)⟩
 |rj a=>rcases ag with q|q|q<;>cases q
theorem a3.nM{len cap:Nat}{v:Value}(h:a3 μ (.slice none len cap) v):v=.slice none len cap:=by cases h;rfl
theorem a3.wU{v:Value}(h:a3 μ (.pointer none) v):v=.pointer none:=by cases h;rfl
theorem a3.zq{r:Nat}{v:Value}(h:a3 μ (.map (some r)) v):∃L,μ r=some L/\v=.map (some L.r):=by
 cases h with
 |atom _ h=>simp[isAtom] at h
 |map id L bD=>exact⟨L,bD,rfl⟩
theorem a3.zr{v:Value}(h:a3 μ (.map none) v):v=.map none:=by cases h;rfl
theorem a3.qV{t:TypeId}{x v:Value}(h:a3 μ (.iface t x) v):∃dh,v=.iface t dh/\a3 μ x dh:=by
 cases h with
 |atom _ h=>simp[isAtom] at h
 |iface t v v' h=>exact⟨v',rfl,h⟩
theorem a3.zx{v:Value}(h:a3 μ .nilIface v):v=.nilIface:=by cases h;rfl
theorem a3.Cf{v:Value}(h:a3 μ .nilFunc v):v=.nilFunc:=by cases h;rfl
theorem h3{t:TypeId}{n:Nat}(h:dD P t=some n)(w:World):(sizeOf t).run P w=.ok n w:=by
 unfold dD at h;cases aq:P.info? t with
 |none=>rw[aq] at h;cases h
 |some i=>rw[aq] at h;injection h with h;subst h;simp[sizeOf,typeInfo,aq]
theorem GU{t:TypeId}{n:Nat}(h:dD P t=some n):P.cellsOf t=n:=by
 unfold dD at h;cases aq:P.info? t with
 |none=>rw[aq] at h;cases h
 |some i=>rw[aq] at h;injection h with h;subst h;simp[Program.cellsOf,aq]
theorem p4{t:TypeId}{z:Value}(h:fw P t=some z)(w:World):(zeroValue t).run P w=.ok z w:=by
 unfold fw at h;cases aq:P.info? t with
 |none=>rw[aq] at h;cases h
 |some i=>rw[aq] at h;simp only at h;simp[zeroValue,typeInfo,aq,h]
theorem dH{t:TypeId}{d:TypeDesc}(h:P.underlying t=some d)(w:World):(underlying t).run P w=.ok d w:=by
 simp[underlying,h]
theorem Ix{t:TypeId}{n:Nat}(h:m8 P t=some (some n)):(∀w,(isAgg t).run P w=.ok true w)/\dD P t=some n:=by
 unfold m8 at h;cases aq:P.info? t with
 |none=>rw[aq] at h;cases h
 |some i=>
  rw[aq] at h;simp only at h;refine⟨fun w=>?_,?_⟩
  ·cases hu:P.underlying t with
   |none=>rw[hu] at h;cases h
   |some d=>rw[hu] at h;cases d<;>first|(simp[isAgg,underlying,hu];done)|(simp at h)
  ·cases hu:P.underlying t with
   |none=>rw[hu] at h;cases h
   |some d=>rw[hu] at h;cases d<;>first|(simp at h;simp[dD,aq,h];done)|(simp at h)
theorem Iw{t:TypeId}(h:m8 P t=some none):∀w,(isAgg t).run P w=.ok false w:=by
 unfold m8 at h;cases aq:P.info? t with
 |none=>rw[aq] at h;cases h
 |some i=>
  rw[aq] at h;simp only at h;intro w;cases hu:P.underlying t with
  |none=>rw[hu] at h;cases h
  |some d=>rw[hu] at h;cases d<;>first|(simp[isAgg,underlying,hu];done)|(simp at h)
theorem Jv{t:TypeId}{cs cb:List Value}{off:Nat}{v:Value}(ap:bp μ cs cb)(he:jj P t cs off=some v)(w:World):
 ∃v',(part t cb.toArray off).run P w=.ok v' w/\a3 μ v v':=by
 unfold jj at he;cases aK:m8 P t with
 |none=>rw[aK] at he;cases he
 |some q=>
  rw[aK] at he;cases q with
  |none=>
   simp only[jr] at he;obtain⟨v',U,ab⟩:=ap.get he;refine⟨v',?_,ab⟩;simp[part,Iw aK,U]
  |some n=>
   simp only[rW] at he;obtain⟨U,ab⟩:=Ix aK;cases aG:takeN n (cs.drop off) with
   |none=>rw[aG] at he;cases he
   |some l=>
    rw[aG] at he;injection he with he;subst he
    obtain⟨aA,aW,cr⟩:=w6 aG;refine⟨.agg ((cb.drop off).take n).toArray,?_,?_⟩
    ·simp[part,U,h3 ab]
    ·rw[aA];exact a3.AJ ((ap.drop off).take n)
theorem bz.row(h:bz P B w0 μ H w){id:Nat}{L:Loc}{cells:List Value}{elem:TypeId}{opn:Bool}{ba du:Nat}{sh:Bool}(bD:μ id=some L)(hm:H.mem.get id=some (.row cells elem opn ba du sh)):
 ∃c f,w.heap[L.r]?=some (.cells c elem f)/\c.size=L.N/\P.cellsOf elem=L.sz/\cells.length<=L.N/\(opn=false->cells.length=L.N)/\bp μ cells (c.toList.take cells.length)/\Ee L.N du sh f:=by
 obtain⟨b,o,aQ,aP,bC⟩:=h.eG id L bD;rw[hm] at aQ;injection aQ with aQ;subst aQ
 cases o with
 |cells c e f=>
  obtain⟨rfl,cW,eE,hD,oQ,Cy,zQ⟩:=bC;refine⟨c,f,aP,cW,eE,hD,oQ,⟨by simp;omega,fun i v v' a b=>?_⟩,zQ⟩;rw[kX] at b;split at b
  ·exact Cy i v v' a (by simpa using b)
  ·cases b
 |_=>exact bC.elim
theorem bz.map(h:bz P B w0 μ H w){id:Nat}{L:Loc}{es:List MapEntry}{clock:Nat}(bD:μ id=some L)(hm:H.mem.get id=some (.map es clock)):
 ∃j2 AX,w.heap[L.r]?=some (.map j2 AX)/\s0 μ es j2.toList:=by
 obtain⟨b,o,aQ,aP,bC⟩:=h.eG id L bD;rw[hm] at aQ;injection aQ with aQ;subst aQ
 cases o with
 |map j2 bo=>exact⟨j2,bo,aP,bC⟩
 |_=>exact bC.elim
theorem bz.cells(h:bz P B w0 μ H w){id:Nat}{L:Loc}{cells:List Value}{elem:TypeId}{opn:Bool}{ba du:Nat}{sh:Bool}(bD:μ id=some L)(hm:H.mem.get id=some (.row cells elem opn ba du sh))
 {off n:Nat}{l:List Value}(aG:takeN n (lJ off cells)=some l):∃l',bp μ l l'/\l'.length=n/\(∀aa v,l'[aa]?=some v->w.cell? ⟨L.r,off+aa,none⟩=some v):=by
 obtain⟨c,f,U,ab,aV,br,gq,hW,vK⟩:=h.row bD hm;obtain⟨aA,aW,cr⟩:=w6 aG;rw[rW] at aA cr;refine⟨((c.toList.take cells.length).drop off).take n,?_,?_,?_⟩
 ·rw[aA];exact(hW.drop off).take n
 ·have:=((hW.drop off).take n).1;rw[<-aA,aW] at this;exact this.symm
 ·intro aa v aX;rw[kX] at aX;split at aX
  ·rw[vb,kX] at aX;split at aX
   ·rw[cell_of_row U];simpa using aX
   ·cases aX
  ·cases aX
theorem Js(h:bz P B w0 μ H w){t:TypeId}{id off:Nat}{L:Loc}{v:Value}(bD:μ id=some L)(he:vy P H t ⟨id,off,none⟩=some v):
 ∃v',(loadVar t ⟨L.r,off,none⟩).run P w=.ok v' w/\a3 μ v v':=by
 simp only[vy] at he;cases hm:H.mem.get id with
 |none=>rw[hm] at he;cases he
 |some b=>
  rw[hm] at he;cases b with
  |row cells elem opn ba du sh=>
   simp only at he;unfold jj at he;cases aK:m8 P t with
   |none=>rw[aK] at he;cases he
   |some q=>
    rw[aK] at he;cases q with
    |none=>
     simp only[jr] at he;obtain⟨c,f,U,ab,aV,br,gq,hW,vK⟩:=h.row bD hm;obtain⟨v',b4,b0⟩:=hW.get he;refine⟨v',?_,b0⟩;rw[kX] at b4;split at b4
     ·have:w.cell? ⟨L.r,off,none⟩=some v':=by rw[cell_of_row U];simpa using b4
      simp[loadVar,Iw aK,load,Sem.run,this]
     ·cases b4
    |some n=>
     obtain⟨U,ab⟩:=Ix aK;simp only at he;cases aG:takeN n (lJ off cells) with
     |none=>rw[aG] at he;cases he
     |some l=>
      rw[aG] at he;injection he with he;subst he
      obtain⟨l',b4,b0,cI⟩:=h.cells bD hm aG;refine⟨.agg l'.toArray,?_,a3.AJ b4⟩;have:=run_loadCells_list (P:=P) w ⟨L.r,off,none⟩ l' (fun aa v aX=>by rw[Addr.ml];exact cI aa v aX);rw[b0] at this;simp[loadVar,U,h3 ab,this]
  |_=>cases he
theorem RG(h:bz P B w0 μ H w){t:TypeId}{p fI v:Value}(ao:a3 μ p fI)(he:tA P H t p=some v):
 ∃v',(Instr.loadAt t fI).run P w=.ok v' w/\a3 μ v v':=by
 unfold tA at he;cases p with
 |pointer a=>
  cases a with
  |none=>simp at he
  |some a=>
   obtain⟨id,off,L,rfl,bD,rfl⟩:=ao.kS;simp only at he;obtain⟨v',U,ab⟩:=Js h bD he;exact⟨v',by simp[Instr.loadAt,Instr.sureAddr,U],ab⟩
 |_=>simp at he
theorem RO(h:bz P B w0 μ H w){t:TypeId}{p fI v v':Value}(ao:a3 μ p fI)(aD:a3 μ v v')(he:tB P H t p v=some H'):
 ∃aZ,(Instr.storeAt t fI v').run P w=.ok () aZ/\bz P B w0 μ H' aZ/\Step μ μ H H':=by
 unfold tB at he;cases p with
 |pointer a=>
  cases a with
  |none=>simp at he
  |some a=>
   obtain⟨id,off,L,rfl,bD,rfl⟩:=ao.kS;simp only at he;cases ag:dD P t with
   |none=>rw[ag] at he;cases he
   |some n=>
    rw[ag] at he;simp only at he;cases af:Nat.beq v.cells.toList.length n with
    |false=>rw[af] at he;cases he
    |true=>
     rw[af,bH] at he;obtain⟨aZ,U,ab,aV⟩:=Ba h bD aD.cells he;have aE:=dB af;have aw:=aD.cells.1;refine⟨aZ,?_,ab,aV⟩;have de:v'.cells.size=n:=by simp at aw aE;omega
     simp[Instr.storeAt,Instr.sureAddr,storeVar,h3 ag,de,U]
 |_=>simp at he
theorem Pk{l l':List Value}(h:bp μ l l')(aK:l.all dY=true):∀v∈l',dY v=true:=fun v aD=>by
 obtain⟨i,aq⟩:=vc.1 aD;have yK:i<l.length:=by have:=(h4.1 aq).1;have:=h.1;omega
 rw[(h.2 i l[i] v (fx yK) aq).dY];exact o2.1 aK _ (List.getElem_mem yK)
theorem Gi(h:bz P B w0 μ H w){elem:TypeId}{cells cells':List Value}{id:Nat}(aF:bp μ cells cells')(aE:oG H elem cells=some (id,H')):
 ∃a4 L,bz P B w0 a4 H' (w.alloc (.cells cells'.toArray elem))/\Step μ a4 H H'/\a4 id=some L/\L.r=w.heap.size/\L.N=cells.length/\L.sz=P.cellsOf elem:=by
 have af:hl P (μ.put H.av ⟨w.heap.size,cells.length,P.cellsOf elem⟩) ⟨w.heap.size,cells.length,P.cellsOf elem⟩ (.row cells elem false 0 0 false) (.cells cells'.toArray elem):=by
  refine⟨rfl,by simp[aF.1],rfl,c9 _,fun _=>rfl,fun i v v' a b=>?_,?_⟩
  ·exact(aF.2 i v v' a (by simpa using b)).mono (h.pj _)
  ·exact⟨fun off _ U ab=>by simp at ab,fun _=>.inl rfl⟩
 obtain⟨a,b,rfl⟩:=h.made aE rfl rfl af;exact⟨_,_,a,b,bm.hC _ _ _,rfl,rfl,rfl⟩
theorem Jp(h:bz P B w0 μ H w){elem:TypeId}{v v' r:Value}(aD:a3 μ v v')(he:qx H elem v=some (r,H')):
 ∃cA aZ a4,(Instr.box elem v').run P w=.ok cA aZ/\bz P B w0 a4 H' aZ/\Step μ a4 H H'/\a3 a4 r cA:=by
 unfold qx at he;cases ae:v.cells.toList.all dY with
 |false=>rw[ae] at he;cases he
 |true=>
  rw[ae,bH] at he;cases aE:oG H elem v.cells.toList with
  |none=>rw[aE] at he;cases he
  |some p=>
   obtain⟨id,H1⟩:=p;rw[aE] at he;simp only[bL,cU] at he;obtain⟨rfl,rfl⟩:=he;obtain⟨a4,L,a,b,c,d,_⟩:=Gi h aD.cells aE;refine⟨.pointer (some ⟨w.heap.size,0,none⟩),_,a4,?_,a,b,?_⟩
   ·simp[Instr.box,newVar,newRow,newObj,Sem.run]
   ·rw[<-d];exact .ptr id 0 L c
theorem RC{s:TypeId}{p fI v:Value}{f:Nat}(ao:a3 μ p fI)(he:yb P s p f=some v)(w:World):
 ∃v',(Instr.fieldAt s fI f).run P w=.ok v' w/\a3 μ v v':=by
 unfold yb at he;cases p with
 |pointer a=>
  cases a with
  |none=>simp at he
  |some a=>
   obtain⟨id,off,L,rfl,bD,rfl⟩:=ao.kS;simp only at he;cases hu:P.underlying s with
   |none=>rw[hu] at he;cases he
   |some d=>
    rw[hu] at he;cases d with
    |struct fields=>
     simp only at he;cases ay:fields[f]? with
     |none=>rw[ay] at he;cases he
     |some fd=>
      rw[ay] at he;simp only at he;cases ag:dD P fd.type with
      |none=>rw[ag] at he;cases he
      |some n=>
       rw[ag] at he;cases n with
       |zero=>cases he
       |succ n=>
        simp only[bL] at he;subst he;refine⟨.pointer (some ⟨L.r,off+fd.offset,none⟩),?_,.ptr id _ L bD⟩;simp[Instr.fieldAt,dH hu,ay,Instr.sureAddr,fieldPlace,h3 ag,Addr.ml]
    |_=>cases he
 |_=>simp at he
theorem FT{i:Int}{len n:Nat}(h:oA i len=some n):i=(n:Int)/\n<len:=by
 unfold oA at h;cases i with
 |ofNat m=>
  simp only at h;cases af:Nat.blt m len with
  |false=>rw[af] at h;cases h
  |true=>
   rw[af,bH] at h;injection h with h;subst h
   exact⟨rfl,fV af⟩
 |negSucc m=>cases h
theorem wz{i:Int}{len n:Nat}(h:lY i len=some n):i=(n:Int)/\n<=len:=by
 unfold lY at h;cases i with
 |ofNat m=>
  simp only at h;cases af:Nat.ble m len with
  |false=>rw[af] at h;cases h
  |true=>
   rw[af,bH] at h;injection h with h;subst h
   exact⟨rfl,fV af⟩
 |negSucc m=>cases h
theorem a3.lZ{k:IntKind}{n:Int}{v:Value}(h:a3 μ (.int k n) v):v=.int k n:=by
 cases h;rfl
theorem a3.xO{b:Bool}{v:Value}(h:a3 μ (.bool b) v):v=.bool b:=by cases h;rfl
theorem a3.zT{s:ByteArray}{v:Value}(h:a3 μ (.string s) v):v=.string s:=by cases h;rfl
theorem RD{t:TypeId}{x dh bw Li v:Value}(j:a3 μ x dh)(aq:a3 μ bw Li)(he:qz P t x bw=some v)(w:World):
 ∃v',(Instr.indexAt t dh Li).run P w=.ok v' w/\a3 μ v v':=by
 unfold qz at he;cases bw with
 |int k i=>
  obtain rfl:=aq.lZ;simp only at he;cases hu:P.underlying t with
  |none=>rw[hu] at he;simp at he
  |some d=>
   rw[hu] at he;cases d with
   |array len elem=>
    cases x with
    |pointer a=>
     cases a with
     |none=>simp at he
     |some a=>
        obtain⟨id,off,L,rfl,bD,rfl⟩:=j.kS;simp only at he;cases aE:oA i len with
        |none=>rw[aE] at he;simp at he
        |some n=>
         rw[aE] at he;cases ag:dD P elem with
         |none=>rw[ag] at he;simp at he
         |some sz=>
          rw[ag] at he;simp only[bL] at he;subst he;obtain⟨rfl,cx⟩:=FT aE;refine⟨.pointer (some ⟨L.r,off+n*sz,none⟩),?_,.ptr id _ L bD⟩;simp[Instr.indexAt,asIntOf,dH hu,Instr.sureAddr,h3 ag,cx,Addr.ml]
    |_=>simp at he
   |slice elem=>
    cases x with
    |slice a len cap=>
     cases a with
     |none=>simp at he
     |some a=>
        have mH:a.spot=none:=by
         cases q:a.spot with
         |none=>rfl
         |some _=>simp[q] at he
        obtain⟨id,off,L,eB,c',rfl,bD,rfl,ae,_,_⟩:=j.pY (.inl mH);simp only at he;cases aE:oA i len with
        |none=>rw[aE] at he;simp at he
        |some n=>
         rw[aE] at he;cases ag:dD P elem with
         |none=>rw[ag] at he;simp at he
         |some sz=>
          rw[ag] at he;simp only[bL] at he;subst he;obtain⟨rfl,cx⟩:=FT aE;rw[ae (by omega)];refine⟨.pointer (some ⟨L.r,off+n*sz,none⟩),?_,.ptr id _ L bD⟩;simp[Instr.indexAt,asIntOf,dH hu,h3 ag,cx,Addr.ml]
    |_=>simp at he
   |_=>simp at he
 |_=>simp at he
end
end
end Go.Cre

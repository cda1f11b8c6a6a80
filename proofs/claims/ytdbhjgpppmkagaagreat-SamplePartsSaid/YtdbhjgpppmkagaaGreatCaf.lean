/- A part of the proof of SampleParts. -/
import Derived.Test.YtdbhjgpppmkagaaGreatCae
import Derived.Laws.IdiomCopy
set_option linter.unusedVariables false
set_option linter.unusedSimpArgs false
namespace Go.Cre
noncomputable section
open Go.RowKit
def pB(c:Array Value)(n:Nat):List Value->Array Value
 |[]=>c
 |v::vs=>pB (c.setIfInBounds n v) (n+1) vs
theorem Oy(vs:List Value):∀(c:Array Value) (n:Nat),(pB c n vs).size=c.size:=by
 induction vs with
 |nil=>intro c n;rfl
 |cons v vs aG=>intro c n;rw[pB,aG];simp
theorem Jv(vs:List Value):∀(c:Array Value) (n i:Nat),n+vs.length<=c.size->(pB c n vs)[i]?=if n<=i/\i<n+vs.length then vs[i -n]? else c[i]?:=by
 induction vs with
 |nil=>intro c n i h;simp[pB];omega
 |cons v vs aG=>
  intro c n i h;simp only[j2] at h;rw[pB,aG _ _ _ (by simp;omega)];rw[yk];by_cases aa:n=i
  ·subst aa;rw[aq (by omega),aF rfl,aF (by omega),aF (by simp)];simp
  ·by_cases ab:n+1<=i/\i<n+1+vs.length
   ·rw[aF ab,aF (by simp;omega)];rw[show i -n=(i -(n+1))+1 from by omega,wy]
   ·rw[aq ab,aq aa,aq (by simp;omega)]
theorem agx(v:Value):v.oneCell'=eT v:=by cases v<;>rfl
theorem Addr.pQ(b o i:Nat):(⟨b,o,none⟩:Addr).add i=⟨b,o+i,none⟩:=by
 unfold Addr.add;split<;>simp_all
section
variable {P:Program}
theorem cell_of_row{w:World}{r:Nat}{c:Array Value}{e:TypeId}{f:Nat×Nat}(h:w.heap[r]?=some (.cells c e f))(o:Nat):w.cell? ⟨r,o,none⟩=c[o]?:=by
 simp[World.cell?,h]
theorem frozen_of_row{w:World}{r:Nat}{c:Array Value}{e:TypeId}{f:Nat×Nat}(h:w.heap[r]?=some (.cells c e f))(o:Nat):w.frozen? ⟨r,o,none⟩=(decide (f.1<=o)&&decide (o<f.2)):=by
 simp[World.frozen?,h]
theorem V0{w:World}{r:Nat}{c:Array Value}{e:TypeId}{f:Nat×Nat}(h:w.heap[r]?=some (.cells c e f))(o:Nat)(v:Value):
 w.setCell ⟨r,o,none⟩ v={w with heap:=w.heap.setIfInBounds r (.cells (c.setIfInBounds o v) e f)}:=by
 have ax:r<w.heap.size:=by
  rcases jo r w.heap.size with ez|ez
  ·exact ez
  ·rw[rT ez] at h;cases h
 unfold World.setCell;congr 1
 apply CF
 intro i;rw[Xo,yk];by_cases ak:r=i
 ·subst ak;rw[aF rfl,aF rfl,h,aF ax];rfl
 ·simp[ak]
theorem VO(r off:Nat)(e:TypeId)(f:Nat×Nat):∀(vs:List Value) (i:Nat) (c:Array Value) (w:World),w.heap[r]?=some (.cells c e f)->off+i+vs.length<=c.size->
 (∀j,j<vs.length->¬(f.1<=off+i+j/\off+i+j<f.2))->(∀v∈vs,eT v=true)->
 (storeCells ⟨r,off,none⟩ vs i).run P w=.ok () {w with heap:=w.heap.setIfInBounds r (.cells (pB c (off+i) vs) e f)}:=by
 intro vs;induction vs with
 |nil=>
  intro i c w h _ _ _;have ax:r<w.heap.size:=by
   rcases jo r w.heap.size with ez|ez
   ·exact ez
   ·rw[rT ez] at h;cases h
  have:w.heap.setIfInBounds r (.cells c e f)=w.heap:=by
   apply CF
   intro j;rw[yk];split
   ·rename_i aU;subst aU;exact h.symm
   ·rfl
  simp[storeCells,pB,this]
 |cons v vs aG=>
  intro i c w h ay aw aa;simp only[j2] at ay aw;have ax:r<w.heap.size:=by
   rcases jo r w.heap.size with ez|ez
   ·exact ez
   ·rw[rT ez] at h;cases h
  have c0:(store ((⟨r,off,none⟩:Addr).add i) v).run P w=.ok () (w.setCell ⟨r,off+i,none⟩ v):=by
   rw[Addr.pQ,run_store P w _ v _ (by rw[agx];exact aa v (by simp))];have bC:=aw 0 (by omega);have av:w.cell? ⟨r,off+i,none⟩=some (c[off+i]'(by omega)):=by
    rw[cell_of_row h,Aj (by omega)]
   have aeP:w.frozen? ⟨r,off+i,none⟩=false:=by
    rw[frozen_of_row h];simp only[s9] at bC;by_cases q:f.1<=off+i
    ·have:¬(off+i<f.2):=fun x=>bC ⟨q,x⟩;simp[this]
    ·simp[q]
   simp[av,aeP]
  have hw:(w.setCell ⟨r,off+i,none⟩ v).heap[r]?=some (.cells (c.setIfInBounds (off+i) v) e f):=by
   rw[V0 h];show(w.heap.setIfInBounds r _)[r]?=_;rw[yk];simp[ax]
  have:=aG (i+1) (c.setIfInBounds (off+i) v) (w.setCell ⟨r,off+i,none⟩ v) hw (by simp;omega) (fun j aU=>by
   have:=aw (j+1) (by omega);rwa [show off+i+(j+1)=off+(i+1)+j from by omega] at this) (fun x I=>aa x (by simp[I]))
  simp only[storeCells,Sem.run_bind,c0,Result.andThen_ok,this,pB];rw[V0 h,show off+(i+1)=off+i+1 from by omega];congr 2
  show(w.heap.setIfInBounds r _).setIfInBounds r _=_;apply CF
  intro j;simp only[yk,Gj];split<;>rfl
variable {B:Nat->Prop}{w0 w:World}{μ:bH}{H H':ao}
theorem RX{N eD:Nat}{sh:Bool}{f:Nat×Nat}(h:Lk N eD sh f){o:Nat}(an:o<N)(bC:eD<=o):¬(f.1<=o/\o<f.2):=fun q=>by
 have:=h.1 o an q.1 q.2;omega
theorem bR.Xc(h:bR P B w0 μ H w){id br eD Lm:Nat}{L:Loc}{cells cells':List Value}{elem:TypeId}{opn sh:Bool}{o':Obj}{H1:ao}(bB:μ id=some L)(ow:H.bq<=id)(hm:H.mem.get id=some (.row cells elem opn br eD sh))
 (s1:cells'.length=cells.length)(hu:H.upd id (.row cells' elem opn br Lm sh)=some H1)(he:(bif opn then xE H1 id br else some H1)=some H')(ai:jm P μ L (.row cells' elem opn br Lm sh) o'):
 bR P B w0 μ H' {w with heap:=w.heap.setIfInBounds L.r o'}/\Step μ μ H H':=by
 obtain⟨iC,iU,iw,wi,rP⟩:=ao.pF hu;have tY:H.mem.get id≠some .dead:=by rw[hm];simp
 cases opn with
 |false=>
  simp only[dN] at he;injection he with he;subst he
  refine h.write bB ow tY iC iw wi (by rw[rP];simp) (fun x I=>.inl (by rw[rP,aq I])) ?_ (fun f l ay=>.inl (by rw[iU];exact ay)) (fun f l ay=>.inl (by rw[<-iU];exact ay))
   (fun c e f z s q=>by injection q with _ _ q;cases q) (fun q=>by rw[hm] at q;simp[jU] at q) ai
  intro x bw I nN ax;rcases h.sep id x L bw (Ne.symm I) bB nN ax.symm with d|d|⟨dj,l,⟨bx,aD,kG,Jr,q⟩,_⟩
  ·exact absurd d tY
  ·rw[rP,aq I];exact d
  ·rw[hm] at q;injection q with q;injection q with _ _ q;cases q
 |true=>
  simp only[cc] at he;unfold xE at he;cases aw:H1.br.get br with
  |none=>rw[aw] at he;cases he
  |some l=>
   rw[aw] at he;simp only at he;cases aH:rz H1 id l with
   |none=>rw[aH] at he;cases he
   |some bZ=>
    rw[aH] at he;simp only at he;obtain⟨a',bd,bz,cM,ha,ru⟩:=Iy aH;obtain⟨b4,bX,cg,fJ,fV⟩:=ao.Cn he;have nR:H.br.get br=some l:=by rw[<-iU];exact aw
    have zm:H'.mem.get id=some (.row cells' elem true br Lm sh):=by rw[bX,ru id (.inr rfl),rP];simp
    have Td:∀x,x≠id->x∉l->H'.mem.get x=H.mem.get x:=fun x I kU=>by rw[bX,ru x (.inl kU),rP,aq I]
    have jg:∀x,x≠id->x∈l->H'.mem.get x=some .dead:=fun x I kU=>by rw[bX];exact ha x kU I
    refine h.write bB ow tY (by omega) (by omega) (by omega) zm ?_ ?_ ?_ ?_ ?_ (fun _=>rfl) ai
    ·intro x I;by_cases kU:x∈l
     ·exact .inr ⟨jg x I kU,(h.kQ br l x nR kU).2⟩
     ·exact .inl (Td x I kU)
    ·intro x bw I nN ax;rcases h.sep id x L bw (Ne.symm I) bB nN ax.symm with d|d|⟨dj,l',⟨bx,aD,kG,Jr,q⟩,_,de,_,eM⟩
     ·exact absurd d tY
     ·by_cases kU:x∈l
      ·exact jg x I kU
      ·rw[Td x I kU];exact d
     ·rw[hm] at q;injection q with q;injection q with _ _ _ q;subst q
      rw[nR] at de;injection de with de;subst de
      exact jg x I eM
    ·intro dj l' de;by_cases pi:dj=br
     ·subst pi;rw[nR] at de;injection de with de;subst de
      right
      intro x y I ah fp;by_cases hn:x=id
      ·right;exact jg y (fun e=>fp (by rw[hn,e])) ah
      ·left;exact jg x hn I
     ·left;rw[fV,aq pi,bd,iU];exact de
    ·intro dj l' de;rw[fV] at de;split at de
     ·injection de with de;right;exact⟨de.symm,rfl⟩
     ·left;rw[bd,iU] at de;exact de
    ·intro bx aD f1 kG Jr q;injection q with mw _ _ q;subst q;subst mw
     exact⟨_,_,_,_,hm,s1.symm⟩
theorem Hn(h:bR P B w0 μ H w){id off:Nat}{L:Loc}{vs ko:List Value}(bB:μ id=some L)(ap:bN μ vs ko)(he:pW H id off vs=some H'):
 ∃bb,(storeCells ⟨L.r,off,none⟩ ko).run P w=.ok () bb/\bR P B w0 μ H' bb/\Step μ μ H H':=by
 unfold pW at he;cases vs with
 |nil=>
  injection he with he;subst he
  have:=ap.kA;subst this;exact⟨w,rfl,h,Step.refl _ _⟩
 |cons hr W3=>
  simp only at he;generalize qg:hr::W3=vs at*;cases ar:Nat.blt id H.bq with
  |true=>rw[ar] at he;cases he
  |false=>
   rw[ar,dN] at he;have ow:H.bq<=id:=by
    have:¬id<H.bq:=fun q=>by have:=kK q;unfold Nat.blt at ar;simp_all
    omega
   cases hm:H.mem.get id with
   |none=>rw[hm] at he;cases he
   |some b=>
    rw[hm] at he;cases b with
    |row cells elem opn br eD sh=>
     simp only at he;cases av:(Nat.ble eD off&&vs.all eT) with
     |false=>rw[av] at he;cases he
     |true=>
      rw[av,cc] at he;simp only[fR] at av;have adj:=hC av.1;cases al:gE off cells vs with
      |none=>rw[al] at he;cases he
      |some cells'=>
       rw[al] at he;simp only at he;cases hu:H.upd id (.row cells' elem opn br eD sh) with
       |none=>rw[hu] at he;cases he
       |some H1=>
        rw[hu] at he;simp only at he;obtain⟨s1,s2,h2⟩:=OA al;obtain⟨b,o,aZ,aR,bY⟩:=h.fS id L bB;rw[hm] at aZ;injection aZ with aZ;subst aZ
        cases o with
        |cells c e f=>
         obtain⟨cO,dI,fK,iT,jC,m3,jD⟩:=bY;have vG:=ap.1;have gK:=VO (P:=P) L.r off e f ko 0 c w aR (by omega) (fun j aU=>by
          simp only[s9];exact RX jD (by omega) (by omega)) (fun v BG=>by
          obtain⟨i,ak⟩:=lM.1 BG;have pn:i<vs.length:=by
           have:=(dv.1 ak).1;omega
          have:=ap.2 i vs[i] v (du pn) ak;rw[this.eT];exact qK.1 av.2 _ (As pn))
         simp only[s9] at gK;have ai:jm P μ L (.row cells' elem opn br eD sh) (.cells (pB c off ko) e f):=by
          refine⟨cO,by rw[Oy];exact dI,fK,by omega,fun an=>by have:=jC an;omega,?_,jD⟩;intro i v v' ak hQ;rw[Jv _ _ _ _ (by omega)] at hQ;rw[h2] at ak;rw[<-vG] at hQ;split at ak
          ·rename_i p5;rw[aF p5] at hQ;exact ap.2 _ v v' ak hQ
          ·rename_i p5;rw[aq p5] at hQ;exact m3 i v v' ak hQ
         exact⟨_,gK,h.Xc bB ow hm s1 hu he ai⟩
        |_=>exact bY.elim
    |_=>cases he
end
end
end Go.Cre
namespace Go.Cre
noncomputable section
open Go.RowKit
section
variable {P:Program}{B:Nat->Prop}{w0 w:World}{μ:bH}{H H':ao}
theorem bj.n7{a:Addr}{v:Value}(h:bj μ (.pointer (some a)) v):∃id off L,a=⟨id,off,none⟩/\μ id=some L/\v=.pointer (some ⟨L.r,off,none⟩):=by
 cases h with
 |atom _ h=>simp[isAtom] at h
 |ptr id off L bB=>exact⟨id,off,L,rfl,bB,rfl⟩
theorem bj.x4{a:Addr}{len cap:Nat}{v:Value}(h:bj μ (.slice (some a) len cap) v):∃bA dY,v=.slice (some bA) len dY:=by
 cases h with
 |atom _ h=>simp[isAtom] at h
 |m5 id off len cap L bB av=>exact⟨_,_,rfl⟩
 |oS id off len cap L bB av jR=>exact⟨_,_,rfl⟩
 |uy id off ga L bB=>exact⟨_,_,rfl⟩
 |wc a=>exact⟨_,_,rfl⟩
theorem bj.ajb{a:Addr}{len cap:Nat}{v:Value}(h:bj μ (.slice (some a) len cap) v)(av:cap≠cR):∃bA,v=.slice (some bA) len cap:=by
 cases h with
 |atom _ h=>simp[isAtom] at h
 |m5 id off len cap L bB av=>exact⟨_,rfl⟩
 |oS id off len cap L bB av jR=>exact absurd rfl av
 |uy id off ga L bB=>exact absurd rfl av
 |wc a=>exact⟨_,rfl⟩
theorem bj.uz{a:Addr}{len cap:Nat}{v:Value}(h:bj μ (.slice (some a) len cap) v)(al:a.spot=none\/0<len\/0<cap):
 ∃id off L ga dY,a=⟨id,off,none⟩/\μ id=some L/\v=.slice (some ⟨L.r,ga,none⟩) len dY/\(0<len->ga=off)/\len<=max len dY/\
  ((cap<cR/\dY=cap/\ga=off)\/(cap=cR/\len<=dY/\ga=off/\off+dY*L.aj<=L.N)\/(cap=cR/\len=0/\dY=0)):=by
 cases h with
 |atom _ h=>simp[isAtom] at h
 |m5 id off len cap L bB av=>exact⟨id,off,L,off,cap,rfl,bB,rfl,fun _=>rfl,by omega,.inl ⟨av,rfl,rfl⟩⟩
 |oS id off len cap L bB av jR=>exact⟨id,off,L,off,cap,rfl,bB,rfl,fun _=>rfl,by omega,.inr (.inl ⟨rfl,av,rfl,jR⟩)⟩
 |uy id off ga L bB=>exact⟨id,off,L,ga,0,rfl,bB,rfl,fun h=>absurd h (by omega),by omega,.inr (.inr ⟨rfl,rfl,rfl⟩)⟩
 |wc a=>rcases al with q|q|q<;>cases q
theorem bj.rO{len cap:Nat}{v:Value}(h:bj μ (.slice none len cap) v):v=.slice none len cap:=by cases h;rfl
theorem bj.Ch{v:Value}(h:bj μ (.pointer none) v):v=.pointer none:=by cases h;rfl
theorem bj.Fm{r:Nat}{v:Value}(h:bj μ (.map (some r)) v):∃L,μ r=some L/\v=.map (some L.r):=by
 cases h with
 |atom _ h=>simp[isAtom] at h
 |map id L bB=>exact⟨L,bB,rfl⟩
theorem bj.Fo{v:Value}(h:bj μ (.map none) v):v=.map none:=by cases h;rfl
theorem bj.vI{t:TypeId}{x v:Value}(h:bj μ (.iface t x) v):∃dD,v=.iface t dD/\bj μ x dD:=by
 cases h with
 |atom _ h=>simp[isAtom] at h
 |iface t v v' h=>exact⟨v',rfl,h⟩
theorem bj.Fw{v:Value}(h:bj μ .nilIface v):v=.nilIface:=by cases h;rfl
theorem bj.IS{v:Value}(h:bj μ .nilFunc v):v=.nilFunc:=by cases h;rfl
theorem km{t:TypeId}{n:Nat}(h:eB P t=some n)(w:World):(sizeOf t).run P w=.ok n w:=by
 unfold eB at h;cases ak:P.info? t with
 |none=>rw[ak] at h;cases h
 |some i=>rw[ak] at h;injection h with h;subst h;simp[sizeOf,typeInfo,ak]
theorem Ox{t:TypeId}{n:Nat}(h:eB P t=some n):P.cellsOf t=n:=by
 unfold eB at h;cases ak:P.info? t with
 |none=>rw[ak] at h;cases h
 |some i=>rw[ak] at h;injection h with h;subst h;simp[Program.cellsOf,ak]
theorem uE{t:TypeId}{z:Value}(h:fO P t=some z)(w:World):(zeroValue t).run P w=.ok z w:=by
 unfold fO at h;cases ak:P.info? t with
 |none=>rw[ak] at h;cases h
 |some i=>rw[ak] at h;simp only at h;simp[zeroValue,typeInfo,ak,h]
theorem eP{t:TypeId}{d:TypeDesc}(h:P.underlying t=some d)(w:World):(underlying t).run P w=.ok d w:=by
 simp[underlying,h]
theorem Ql{t:TypeId}{n:Nat}(h:qR P t=some (some n)):(∀w,(isAgg t).run P w=.ok true w)/\eB P t=some n:=by
 unfold qR at h;cases ak:P.info? t with
 |none=>rw[ak] at h;cases h
 |some i=>
  rw[ak] at h;simp only at h;refine⟨fun w=>?_,?_⟩
  ·cases hu:P.underlying t with
   |none=>rw[hu] at h;cases h
   |some d=>rw[hu] at h;cases d<;>first|(simp[isAgg,underlying,hu];done)|(simp at h)
  ·cases hu:P.underlying t with
   |none=>rw[hu] at h;cases h
   |some d=>rw[hu] at h;cases d<;>first|(simp at h;simp[eB,ak,h];done)|(simp at h)
theorem Qk{t:TypeId}(h:qR P t=some none):∀w,(isAgg t).run P w=.ok false w:=by
 unfold qR at h;cases ak:P.info? t with
 |none=>rw[ak] at h;cases h
 |some i=>
  rw[ak] at h;simp only at h;intro w;cases hu:P.underlying t with
  |none=>rw[hu] at h;cases h
  |some d=>rw[hu] at h;cases d<;>first|(simp[isAgg,underlying,hu];done)|(simp at h)
theorem RI{t:TypeId}{cs cK:List Value}{off:Nat}{v:Value}(ax:bN μ cs cK)(he:lS P t cs off=some v)(w:World):
 ∃v',(part t cK.toArray off).run P w=.ok v' w/\bj μ v v':=by
 unfold lS at he;cases aW:qR P t with
 |none=>rw[aW] at he;cases he
 |some q=>
  rw[aW] at he;cases q with
  |none=>
   simp only[kk] at he;obtain⟨v',aa,ab⟩:=ax.get he;refine⟨v',?_,ab⟩;simp[part,Qk aW,aa]
  |some n=>
   simp only[vd] at he;obtain⟨aa,ab⟩:=Ql aW;cases aN:takeN n (cs.drop off) with
   |none=>rw[aN] at he;cases he
   |some l=>
    rw[aN] at he;injection he with he;subst he
    obtain⟨aD,a5,cC⟩:=Cs aN;refine⟨.agg ((cK.drop off).take n).toArray,?_,?_⟩
    ·simp[part,aa,km ab]
    ·rw[aD];exact bj.GQ ((ax.drop off).take n)
theorem bR.row(h:bR P B w0 μ H w){id:Nat}{L:Loc}{cells:List Value}{elem:TypeId}{opn:Bool}{br eD:Nat}{sh:Bool}(bB:μ id=some L)(hm:H.mem.get id=some (.row cells elem opn br eD sh)):
 ∃c f,w.heap[L.r]?=some (.cells c elem f)/\c.size=L.N/\P.cellsOf elem=L.aj/\cells.length<=L.N/\(opn=false->cells.length=L.N)/\bN μ cells (c.toList.take cells.length)/\Lk L.N eD sh f:=by
 obtain⟨b,o,aZ,aR,bY⟩:=h.fS id L bB;rw[hm] at aZ;injection aZ with aZ;subst aZ
 cases o with
 |cells c e f=>
  obtain⟨rfl,dI,fK,iT,jC,m3,jD⟩:=bY;refine⟨c,f,aR,dI,fK,iT,jC,⟨by simp;omega,fun i v v' a b=>?_⟩,jD⟩;rw[kr] at b;split at b
  ·exact m3 i v v' a (by simpa using b)
  ·cases b
 |_=>exact bY.elim
theorem bR.map(h:bR P B w0 μ H w){id:Nat}{L:Loc}{es:List MapEntry}{clock:Nat}(bB:μ id=some L)(hm:H.mem.get id=some (.map es clock)):
 ∃hG G8,w.heap[L.r]?=some (.map hG G8)/\ym μ es hG.toList:=by
 obtain⟨b,o,aZ,aR,bY⟩:=h.fS id L bB;rw[hm] at aZ;injection aZ with aZ;subst aZ
 cases o with
 |map hG b1=>exact⟨hG,b1,aR,bY⟩
 |_=>exact bY.elim
theorem bR.cells(h:bR P B w0 μ H w){id:Nat}{L:Loc}{cells:List Value}{elem:TypeId}{opn:Bool}{br eD:Nat}{sh:Bool}(bB:μ id=some L)(hm:H.mem.get id=some (.row cells elem opn br eD sh))
 {off n:Nat}{l:List Value}(aN:takeN n (nI off cells)=some l):∃l',bN μ l l'/\l'.length=n/\(∀j v,l'[j]?=some v->w.cell? ⟨L.r,off+j,none⟩=some v):=by
 obtain⟨c,f,aa,ab,aK,bh,ff,gz,ml⟩:=h.row bB hm;obtain⟨aD,a5,cC⟩:=Cs aN;rw[vd] at aD cC;refine⟨((c.toList.take cells.length).drop off).take n,?_,?_,?_⟩
 ·rw[aD];exact(gz.drop off).take n
 ·have:=((gz.drop off).take n).1;rw[<-aD,a5] at this;exact this.symm
 ·intro j v aU;rw[kr] at aU;split at aU
  ·rw[o2,kr] at aU;split at aU
   ·rw[cell_of_row aa];simpa using aU
   ·cases aU
  ·cases aU
theorem RF(h:bR P B w0 μ H w){t:TypeId}{id off:Nat}{L:Loc}{v:Value}(bB:μ id=some L)(he:AW P H t ⟨id,off,none⟩=some v):
 ∃v',(loadVar t ⟨L.r,off,none⟩).run P w=.ok v' w/\bj μ v v':=by
 simp only[AW] at he;cases hm:H.mem.get id with
 |none=>rw[hm] at he;cases he
 |some b=>
  rw[hm] at he;cases b with
  |row cells elem opn br eD sh=>
   simp only at he;unfold lS at he;cases aW:qR P t with
   |none=>rw[aW] at he;cases he
   |some q=>
    rw[aW] at he;cases q with
    |none=>
     simp only[kk] at he;obtain⟨c,f,aa,ab,aK,bh,ff,gz,ml⟩:=h.row bB hm;obtain⟨v',b4,bX⟩:=gz.get he;refine⟨v',?_,bX⟩;rw[kr] at b4;split at b4
     ·have:w.cell? ⟨L.r,off,none⟩=some v':=by rw[cell_of_row aa];simpa using b4
      simp[loadVar,Qk aW,load,Sem.run,this]
     ·cases b4
    |some n=>
     obtain⟨aa,ab⟩:=Ql aW;simp only at he;cases aN:takeN n (nI off cells) with
     |none=>rw[aN] at he;cases he
     |some l=>
      rw[aN] at he;injection he with he;subst he
      obtain⟨l',b4,bX,cg⟩:=h.cells bB hm aN;refine⟨.agg l'.toArray,?_,bj.GQ b4⟩;have:=run_loadCells_list (P:=P) w ⟨L.r,off,none⟩ l' (fun j v aU=>by rw[Addr.pQ];exact cg j v aU);rw[bX] at this;simp[loadVar,aa,km ab,this]
  |_=>cases he
theorem aaP(h:bR P B w0 μ H w){t:TypeId}{p hK v:Value}(au:bj μ p hK)(he:yW P H t p=some v):
 ∃v',(Instr.loadAt t hK).run P w=.ok v' w/\bj μ v v':=by
 unfold yW at he;cases p with
 |pointer a=>
  cases a with
  |none=>simp at he
  |some a=>
   obtain⟨id,off,L,rfl,bB,rfl⟩:=au.n7;simp only at he;obtain⟨v',aa,ab⟩:=RF h bB he;exact⟨v',by simp[Instr.loadAt,Instr.sureAddr,aa],ab⟩
 |_=>simp at he
theorem aaY(h:bR P B w0 μ H w){t:TypeId}{p hK v v':Value}(au:bj μ p hK)(ap:bj μ v v')(he:yX P H t p v=some H'):
 ∃bb,(Instr.storeAt t hK v').run P w=.ok () bb/\bR P B w0 μ H' bb/\Step μ μ H H':=by
 unfold yX at he;cases p with
 |pointer a=>
  cases a with
  |none=>simp at he
  |some a=>
   obtain⟨id,off,L,rfl,bB,rfl⟩:=au.n7;simp only at he;cases al:eB P t with
   |none=>rw[al] at he;cases he
   |some n=>
    rw[al] at he;simp only at he;cases ai:Nat.beq v.cells.toList.length n with
    |false=>rw[ai] at he;cases he
    |true=>
     rw[ai,cc] at he;obtain⟨bb,aa,ab,aK⟩:=Hn h bB ap.cells he;have aM:=eK ai;have ay:=ap.cells.1;refine⟨bb,?_,ab,aK⟩;have eI:v'.cells.size=n:=by simp at ay aM;omega
     simp[Instr.storeAt,Instr.sureAddr,storeVar,km al,eI,aa]
 |_=>simp at he
theorem Ye{l l':List Value}(h:bN μ l l')(aW:l.all eT=true):∀v∈l',eT v=true:=fun v ap=>by
 obtain⟨i,ak⟩:=lM.1 ap;have pn:i<l.length:=by have:=(dv.1 ak).1;have:=h.1;omega
 rw[(h.2 i l[i] v (du pn) ak).eT];exact qK.1 aW _ (As pn)
theorem NG(h:bR P B w0 μ H w){elem:TypeId}{cells cells':List Value}{id:Nat}(av:bN μ cells cells')(aM:sO H elem cells=some (id,H')):
 ∃bk L,bR P B w0 bk H' (w.alloc (.cells cells'.toArray elem))/\Step μ bk H H'/\bk id=some L/\L.r=w.heap.size/\L.N=cells.length/\L.aj=P.cellsOf elem:=by
 have ai:jm P (μ.put H.af ⟨w.heap.size,cells.length,P.cellsOf elem⟩) ⟨w.heap.size,cells.length,P.cellsOf elem⟩ (.row cells elem false 0 0 false) (.cells cells'.toArray elem):=by
  refine⟨rfl,by simp[av.1],rfl,dH _,fun _=>rfl,fun i v v' a b=>?_,?_⟩
  ·exact(av.2 i v v' a (by simpa using b)).mono (h.tE _)
  ·exact⟨fun off _ aa ab=>by simp at ab,fun _=>.inl rfl⟩
 obtain⟨a,b,rfl⟩:=h.made aM rfl rfl ai;exact⟨_,_,a,b,bH.jB _ _ _,rfl,rfl,rfl⟩
theorem RC(h:bR P B w0 μ H w){elem:TypeId}{v v' r:Value}(ap:bj μ v v')(he:vg H elem v=some (r,H')):
 ∃b7 bb bk,(Instr.box elem v').run P w=.ok b7 bb/\bR P B w0 bk H' bb/\Step μ bk H H'/\bj bk r b7:=by
 unfold vg at he;cases an:v.cells.toList.all eT with
 |false=>rw[an] at he;cases he
 |true=>
  rw[an,cc] at he;cases aM:sO H elem v.cells.toList with
  |none=>rw[aM] at he;cases he
  |some p=>
   obtain⟨id,H1⟩:=p;rw[aM] at he;simp only[b6,da] at he;obtain⟨rfl,rfl⟩:=he;obtain⟨bk,L,a,b,c,d,_⟩:=NG h ap.cells aM;refine⟨.pointer (some ⟨w.heap.size,0,none⟩),_,bk,?_,a,b,?_⟩
   ·simp[Instr.box,newVar,newRow,newObj,Sem.run]
   ·rw[<-d];exact .ptr id 0 L c
theorem aaL{s:TypeId}{p hK v:Value}{f:Nat}(au:bj μ p hK)(he:DO P s p f=some v)(w:World):
 ∃v',(Instr.fieldAt s hK f).run P w=.ok v' w/\bj μ v v':=by
 unfold DO at he;cases p with
 |pointer a=>
  cases a with
  |none=>simp at he
  |some a=>
   obtain⟨id,off,L,rfl,bB,rfl⟩:=au.n7;simp only at he;cases hu:P.underlying s with
   |none=>rw[hu] at he;cases he
   |some d=>
    rw[hu] at he;cases d with
    |struct fields=>
     simp only at he;cases aw:fields[f]? with
     |none=>rw[aw] at he;cases he
     |some fd=>
      rw[aw] at he;simp only at he;cases al:eB P fd.type with
      |none=>rw[al] at he;cases he
      |some n=>
       rw[al] at he;cases n with
       |zero=>cases he
       |succ n=>
        simp only[b6] at he;subst he;refine⟨.pointer (some ⟨L.r,off+fd.offset,none⟩),?_,.ptr id _ L bB⟩;simp[Instr.fieldAt,eP hu,aw,Instr.sureAddr,fieldPlace,km al,Addr.pQ]
    |_=>cases he
 |_=>simp at he
theorem Nj{i:Int}{len n:Nat}(h:sF i len=some n):i=(n:Int)/\n<len:=by
 unfold sF at h;cases i with
 |ofNat m=>
  simp only at h;cases ai:Nat.blt m len with
  |false=>rw[ai] at h;cases h
  |true=>
   rw[ai,cc] at h;injection h with h;subst h
   exact⟨rfl,hC ai⟩
 |negSucc m=>cases h
theorem BM{i:Int}{len n:Nat}(h:pt i len=some n):i=(n:Int)/\n<=len:=by
 unfold pt at h;cases i with
 |ofNat m=>
  simp only at h;cases ai:Nat.ble m len with
  |false=>rw[ai] at h;cases h
  |true=>
   rw[ai,cc] at h;injection h with h;subst h
   exact⟨rfl,hC ai⟩
 |negSucc m=>cases h
theorem bj.pu{k:IntKind}{n:Int}{v:Value}(h:bj μ (.int k n) v):v=.int k n:=by
 cases h;rfl
theorem bj.Di{b:Bool}{v:Value}(h:bj μ (.bool b) v):v=.bool b:=by cases h;rfl
theorem bj.FZ{s:ByteArray}{v:Value}(h:bj μ (.string s) v):v=.string s:=by cases h;rfl
theorem aaM{t:TypeId}{x dD bf T2 v:Value}(I:bj μ x dD)(ak:bj μ bf T2)(he:yV P t x bf=some v)(w:World):
 ∃v',(Instr.indexAt t dD T2).run P w=.ok v' w/\bj μ v v':=by
 unfold yV at he;cases bf with
 |int k i=>
  obtain rfl:=ak.pu;simp only at he;cases hu:P.underlying t with
  |none=>rw[hu] at he;simp at he
  |some d=>
   rw[hu] at he;cases d with
   |array len elem=>
    cases x with
    |pointer a=>
     cases a with
     |none=>simp at he
     |some a=>
        obtain⟨id,off,L,rfl,bB,rfl⟩:=I.n7;simp only at he;cases aM:sF i len with
        |none=>rw[aM] at he;simp at he
        |some n=>
         rw[aM] at he;cases al:eB P elem with
         |none=>rw[al] at he;simp at he
         |some aj=>
          rw[al] at he;simp only[b6] at he;subst he;obtain⟨rfl,cP⟩:=Nj aM;refine⟨.pointer (some ⟨L.r,off+n*aj,none⟩),?_,.ptr id _ L bB⟩;simp[Instr.indexAt,asIntOf,eP hu,Instr.sureAddr,km al,cP,Addr.pQ]
    |_=>simp at he
   |slice elem=>
    cases x with
    |slice a len cap=>
     cases a with
     |none=>simp at he
     |some a=>
        have mr:a.spot=none:=by
         cases q:a.spot with
         |none=>rfl
         |some _=>simp[q] at he
        obtain⟨id,off,L,ga,dY,rfl,bB,rfl,an,_,_⟩:=I.uz (.inl mr);simp only at he;cases aM:sF i len with
        |none=>rw[aM] at he;simp at he
        |some n=>
         rw[aM] at he;cases al:eB P elem with
         |none=>rw[al] at he;simp at he
         |some aj=>
          rw[al] at he;simp only[b6] at he;subst he;obtain⟨rfl,cP⟩:=Nj aM;rw[an (by omega)];refine⟨.pointer (some ⟨L.r,off+n*aj,none⟩),?_,.ptr id _ L bB⟩;simp[Instr.indexAt,asIntOf,eP hu,km al,cP,Addr.pQ]
    |_=>simp at he
   |_=>simp at he
 |_=>simp at he
end
end
end Go.Cre

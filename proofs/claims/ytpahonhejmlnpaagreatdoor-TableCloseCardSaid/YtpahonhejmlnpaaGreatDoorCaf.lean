/- A part of the proof of TableClose. -/
import Derived.Test.YtpahonhejmlnpaaGreatDoorCae
import Derived.Laws.IdiomCopy
set_option linter.unusedVariables false
set_option linter.unusedSimpArgs false
namespace Go.Cre
noncomputable section
open Go.RowKit
def nJ(c:Array Value)(n:Nat):List Value->Array Value
 |[]=>c
 |v::vs=>nJ (c.setIfInBounds n v) (n+1) vs
theorem JT(vs:List Value):∀(c:Array Value) (n:Nat),(nJ c n vs).size=c.size:=by
 induction vs with
 |nil=>intro c n;rfl
 |cons v vs aP=>intro c n;rw[nJ,aP];simp
theorem EJ(vs:List Value):∀(c:Array Value) (n i:Nat),n+vs.length<=c.size->(nJ c n vs)[i]?=if n<=i/\i<n+vs.length then vs[i -n]? else c[i]?:=by
 induction vs with
 |nil=>intro c n i h;simp[nJ];omega
 |cons v vs aP=>
  intro c n i h;simp only[lx] at h;rw[nJ,aP _ _ _ (by simp;omega)];rw[uS];by_cases aa:n=i
  ·subst aa;rw[a3 (by omega),bg rfl,bg (by omega),bg (by simp)];simp
  ·by_cases ab:n+1<=i/\i<n+1+vs.length
   ·rw[bg ab,bg (by simp;omega)];rw[show i -n=(i -(n+1))+1 from by omega,K6]
   ·rw[a3 ab,a3 aa,a3 (by simp;omega)]
theorem abb(v:Value):v.oneCell'=ev v:=by cases v<;>rfl
theorem Addr.nY(b o i:Nat):(⟨b,o,none⟩:Addr).add i=⟨b,o+i,none⟩:=by
 unfold Addr.add;split<;>simp_all
section
variable {P:Program}
theorem cell_of_row{w:World}{r:Nat}{c:Array Value}{e:TypeId}{f:Nat×Nat}(h:w.heap[r]?=some (.cells c e f))(o:Nat):w.cell? ⟨r,o,none⟩=c[o]?:=by
 simp[World.cell?,h]
theorem frozen_of_row{w:World}{r:Nat}{c:Array Value}{e:TypeId}{f:Nat×Nat}(h:w.heap[r]?=some (.cells c e f))(o:Nat):w.frozen? ⟨r,o,none⟩=(decide (f.1<=o)&&decide (o<f.2)):=by
 simp[World.frozen?,h]
theorem QT{w:World}{r:Nat}{c:Array Value}{e:TypeId}{f:Nat×Nat}(h:w.heap[r]?=some (.cells c e f))(o:Nat)(v:Value):
 w.setCell ⟨r,o,none⟩ v={w with heap:=w.heap.setIfInBounds r (.cells (c.setIfInBounds o v) e f)}:=by
 have al:r<w.heap.size:=by
  rcases hr r w.heap.size with cS|cS
  ·exact cS
  ·rw[pC cS] at h;cases h
 unfold World.setCell;congr 1
 apply y6
 intro i;rw[Sc,uS];by_cases ar:r=i
 ·subst ar;rw[bg rfl,bg rfl,h,bg al];rfl
 ·simp[ar]
theorem QN(r off:Nat)(e:TypeId)(f:Nat×Nat):∀(vs:List Value) (i:Nat) (c:Array Value) (w:World),w.heap[r]?=some (.cells c e f)->off+i+vs.length<=c.size->
 (∀j,j<vs.length->¬(f.1<=off+i+j/\off+i+j<f.2))->(∀v∈vs,ev v=true)->
 (storeCells ⟨r,off,none⟩ vs i).run P w=.ok () {w with heap:=w.heap.setIfInBounds r (.cells (nJ c (off+i) vs) e f)}:=by
 intro vs;induction vs with
 |nil=>
  intro i c w h _ _ _;have al:r<w.heap.size:=by
   rcases hr r w.heap.size with cS|cS
   ·exact cS
   ·rw[pC cS] at h;cases h
  have:w.heap.setIfInBounds r (.cells c e f)=w.heap:=by
   apply y6
   intro j;rw[uS];split
   ·rename_i a5;subst a5;exact h.symm
   ·rfl
  simp[storeCells,nJ,this]
 |cons v vs aP=>
  intro i c w h aA az aa;simp only[lx] at aA az;have al:r<w.heap.size:=by
   rcases hr r w.heap.size with cS|cS
   ·exact cS
   ·rw[pC cS] at h;cases h
  have dM:(store ((⟨r,off,none⟩:Addr).add i) v).run P w=.ok () (w.setCell ⟨r,off+i,none⟩ v):=by
   rw[Addr.nY,run_store P w _ v _ (by rw[abb];exact aa v (by simp))];have a0:=az 0 (by omega);have aL:w.cell? ⟨r,off+i,none⟩=some (c[off+i]'(by omega)):=by
    rw[cell_of_row h,wV (by omega)]
   have DS:w.frozen? ⟨r,off+i,none⟩=false:=by
    rw[frozen_of_row h];simp only[nT] at a0;by_cases q:f.1<=off+i
    ·have:¬(off+i<f.2):=fun x=>a0 ⟨q,x⟩;simp[this]
    ·simp[q]
   simp[aL,DS]
  have hw:(w.setCell ⟨r,off+i,none⟩ v).heap[r]?=some (.cells (c.setIfInBounds (off+i) v) e f):=by
   rw[QT h];show(w.heap.setIfInBounds r _)[r]?=_;rw[uS];simp[al]
  have:=aP (i+1) (c.setIfInBounds (off+i) v) (w.setCell ⟨r,off+i,none⟩ v) hw (by simp;omega) (fun j a5=>by
   have:=az (j+1) (by omega);rwa [show off+i+(j+1)=off+(i+1)+j from by omega] at this) (fun x U=>aa x (by simp[U]))
  simp only[storeCells,Sem.run_bind,dM,Result.andThen_ok,this,nJ];rw[QT h,show off+(i+1)=off+i+1 from by omega];congr 2
  show(w.heap.setIfInBounds r _).setIfInBounds r _=_;apply y6
  intro j;simp only[uS,B8];split<;>rfl
variable {B:Nat->Prop}{w0 w:World}{μ:bz}{H H':ai}
theorem M2{N dS:Nat}{sh:Bool}{f:Nat×Nat}(h:GK N dS sh f){o:Nat}(ag:o<N)(a0:dS<=o):¬(f.1<=o/\o<f.2):=fun q=>by
 have:=h.1 o ag q.1 q.2;omega
theorem bL.RZ(h:bL P B w0 μ H w){id bl dS GM:Nat}{L:Loc}{cells cells':List Value}{elem:TypeId}{opn sh:Bool}{o':Obj}{H1:ai}(bP:μ id=some L)(mK:H.bp<=id)(hm:H.mem.get id=some (.row cells elem opn bl dS sh))
 (s1:cells'.length=cells.length)(hu:H.upd id (.row cells' elem opn bl GM sh)=some H1)(he:(bif opn then uq H1 id bl else some H1)=some H')(ah:ia P μ L (.row cells' elem opn bl GM sh) o'):
 bL P B w0 μ H' {w with heap:=w.heap.setIfInBounds L.r o'}/\Step μ μ H H':=by
 obtain⟨jl,jJ,pA,BR,pB⟩:=ai.nK hu;have rC:H.mem.get id≠some .dead:=by rw[hm];simp
 cases opn with
 |false=>
  simp only[da] at he;injection he with he;subst he
  refine h.write bP mK rC jl pA BR (by rw[pB];simp) (fun x U=>.inl (by rw[pB,a3 U])) ?_ (fun f l aA=>.inl (by rw[jJ];exact aA)) (fun f l aA=>.inl (by rw[<-jJ];exact aA))
   (fun c e f z s q=>by injection q with _ _ q;cases q) (fun q=>by rw[hm] at q;simp[iJ] at q) ah
  intro x bC U rr al;rcases h.sep id x L bC (Ne.symm U) bP rr al.symm with d|d|⟨cz,l,⟨bn,aC,dE,EG,q⟩,_⟩
  ·exact absurd d rC
  ·rw[pB,a3 U];exact d
  ·rw[hm] at q;injection q with q;injection q with _ _ q;cases q
 |true=>
  simp only[b1] at he;unfold uq at he;cases az:H1.bl.get bl with
  |none=>rw[az] at he;cases he
  |some l=>
   rw[az] at he;simp only at he;cases hk:pi H1 id l with
   |none=>rw[hk] at he;cases he
   |some bK=>
    rw[hk] at he;simp only at he;obtain⟨a9,a4,bJ,cx,fL,iT⟩:=D1 hk;obtain⟨cm,cn,cR,fk,e9⟩:=ai.yO he;have l4:H.bl.get bl=some l:=by rw[<-jJ];exact az
    have o5:H'.mem.get id=some (.row cells' elem true bl GM sh):=by rw[cn,iT id (.inr rfl),pB];simp
    have Oe:∀x,x≠id->x∉l->H'.mem.get x=H.mem.get x:=fun x U kW=>by rw[cn,iT x (.inl kW),pB,a3 U]
    have p5:∀x,x≠id->x∈l->H'.mem.get x=some .dead:=fun x U kW=>by rw[cn];exact fL x kW U
    refine h.write bP mK rC (by omega) (by omega) (by omega) o5 ?_ ?_ ?_ ?_ ?_ (fun _=>rfl) ah
    ·intro x U;by_cases kW:x∈l
     ·exact .inr ⟨p5 x U kW,(h.jC bl l x l4 kW).2⟩
     ·exact .inl (Oe x U kW)
    ·intro x bC U rr al;rcases h.sep id x L bC (Ne.symm U) bP rr al.symm with d|d|⟨cz,l',⟨bn,aC,dE,EG,q⟩,_,db,_,eW⟩
     ·exact absurd d rC
     ·by_cases kW:x∈l
      ·exact p5 x U kW
      ·rw[Oe x U kW];exact d
     ·rw[hm] at q;injection q with q;injection q with _ _ _ q;subst q
      rw[l4] at db;injection db with db;subst db
      exact p5 x U eW
    ·intro cz l' db;by_cases nv:cz=bl
     ·subst nv;rw[l4] at db;injection db with db;subst db
      right
      intro x y U aF dT;by_cases h5:x=id
      ·right;exact p5 y (fun e=>dT (by rw[h5,e])) aF
      ·left;exact p5 x h5 U
     ·left;rw[e9,a3 nv,a4,jJ];exact db
    ·intro cz l' db;rw[e9] at db;split at db
     ·injection db with db;right;exact⟨db.symm,rfl⟩
     ·left;rw[a4,jJ] at db;exact db
    ·intro bn aC f1 dE EG q;injection q with m1 _ _ q;subst q;subst m1
     exact⟨_,_,_,_,hm,s1.symm⟩
theorem CV(h:bL P B w0 μ H w){id off:Nat}{L:Loc}{vs k2:List Value}(bP:μ id=some L)(ay:bF μ vs k2)(he:o0 H id off vs=some H'):
 ∃a7,(storeCells ⟨L.r,off,none⟩ k2).run P w=.ok () a7/\bL P B w0 μ H' a7/\Step μ μ H H':=by
 unfold o0 at he;cases vs with
 |nil=>
  injection he with he;subst he
  have:=ay.ji;subst this;exact⟨w,rfl,h,Step.refl _ _⟩
 |cons jm RQ=>
  simp only at he;generalize vZ:jm::RQ=vs at*;cases aq:Nat.blt id H.bp with
  |true=>rw[aq] at he;cases he
  |false=>
   rw[aq,da] at he;have mK:H.bp<=id:=by
    have:¬id<H.bp:=fun q=>by have:=j3 q;unfold Nat.blt at aq;simp_all
    omega
   cases hm:H.mem.get id with
   |none=>rw[hm] at he;cases he
   |some b=>
    rw[hm] at he;cases b with
    |row cells elem opn bl dS sh=>
     simp only at he;cases aL:(Nat.ble dS off&&vs.all ev) with
     |false=>rw[aL] at he;cases he
     |true=>
      rw[aL,b1] at he;simp only[fp] at aL;have XU:=gy aL.1;cases af:fO off cells vs with
      |none=>rw[af] at he;cases he
      |some cells'=>
       rw[af] at he;simp only at he;cases hu:H.upd id (.row cells' elem opn bl dS sh) with
       |none=>rw[hu] at he;cases he
       |some H1=>
        rw[hu] at he;simp only at he;obtain⟨s1,s2,h'⟩:=JU af;obtain⟨b,o,aR,aN,bG⟩:=h.e6 id L bP;rw[hm] at aR;injection aR with aR;subst aR
        cases o with
        |cells c e f=>
         obtain⟨cX,cM,fo,ix,qA,Ez,BG⟩:=bG;have sX:=ay.1;have fK:=QN (P:=P) L.r off e f k2 0 c w aN (by omega) (fun j a5=>by
          simp only[nT];exact M2 BG (by omega) (by omega)) (fun v pd=>by
          obtain⟨i,ar⟩:=w4.1 pd;have Ar:i<vs.length:=by
           have:=(hq.1 ar).1;omega
          have:=ay.2 i vs[i] v (eO Ar) ar;rw[this.ev];exact qS.1 aL.2 _ (List.getElem_mem Ar))
         simp only[nT] at fK;have ah:ia P μ L (.row cells' elem opn bl dS sh) (.cells (nJ c off k2) e f):=by
          refine⟨cX,by rw[JT];exact cM,fo,by omega,fun ag=>by have:=qA ag;omega,?_,BG⟩;intro i v v' ar jP;rw[EJ _ _ _ _ (by omega)] at jP;rw[h'] at ar;rw[<-sX] at jP;split at ar
          ·rename_i pZ;rw[bg pZ] at jP;exact ay.2 _ v v' ar jP
          ·rename_i pZ;rw[a3 pZ] at jP;exact Ez i v v' ar jP
         exact⟨_,fK,h.RZ bP mK hm s1 hu he ah⟩
        |_=>exact bG.elim
    |_=>cases he
end
end
end Go.Cre
namespace Go.Cre
noncomputable section
open Go.RowKit
section
variable {P:Program}{B:Nat->Prop}{w0 w:World}{μ:bz}{H H':ai}
theorem bc.me{a:Addr}{v:Value}(h:bc μ (.pointer (some a)) v):∃id off L,a=⟨id,off,none⟩/\μ id=some L/\v=.pointer (some ⟨L.r,off,none⟩):=by
 cases h with
 |atom _ h=>simp[isAtom] at h
 |ptr id off L bP=>exact⟨id,off,L,rfl,bP,rfl⟩
theorem bc.uH{a:Addr}{len cap:Nat}{v:Value}(h:bc μ (.slice (some a) len cap) v):∃bE dx,v=.slice (some bE) len dx:=by
 cases h with
 |atom _ h=>simp[isAtom] at h
 |lq id off len cap L bP aL=>exact⟨_,_,rfl⟩
 |m6 id off len cap L bP aL hc=>exact⟨_,_,rfl⟩
 |r1 id off e0 L bP=>exact⟨_,_,rfl⟩
 |ti a=>exact⟨_,_,rfl⟩
theorem bc.ada{a:Addr}{len cap:Nat}{v:Value}(h:bc μ (.slice (some a) len cap) v)(aL:cap≠cu):∃bE,v=.slice (some bE) len cap:=by
 cases h with
 |atom _ h=>simp[isAtom] at h
 |lq id off len cap L bP aL=>exact⟨_,rfl⟩
 |m6 id off len cap L bP aL hc=>exact absurd rfl aL
 |r1 id off e0 L bP=>exact absurd rfl aL
 |ti a=>exact⟨_,rfl⟩
theorem bc.r2{a:Addr}{len cap:Nat}{v:Value}(h:bc μ (.slice (some a) len cap) v)(af:a.spot=none\/0<len\/0<cap):
 ∃id off L e0 dx,a=⟨id,off,none⟩/\μ id=some L/\v=.slice (some ⟨L.r,e0,none⟩) len dx/\(0<len->e0=off)/\len<=max len dx/\
  ((cap<cu/\dx=cap/\e0=off)\/(cap=cu/\len<=dx/\e0=off/\off+dx*L.sz<=L.N)\/(cap=cu/\len=0/\dx=0)):=by
 cases h with
 |atom _ h=>simp[isAtom] at h
 |lq id off len cap L bP aL=>exact⟨id,off,L,off,cap,rfl,bP,rfl,fun _=>rfl,by omega,.inl ⟨aL,rfl,rfl⟩⟩
 |m6 id off len cap L bP aL hc=>exact⟨id,off,L,off,cap,rfl,bP,rfl,fun _=>rfl,by omega,.inr (.inl ⟨rfl,aL,rfl,hc⟩)⟩
 |r1 id off e0 L bP=>exact⟨id,off,L,e0,0,rfl,bP,rfl,fun h=>absurd h (by omega),by omega,.inr (.inr ⟨rfl,rfl,rfl⟩)⟩
 |ti a=>rcases af with q|q|q<;>cases q
theorem bc.pz{len cap:Nat}{v:Value}(h:bc μ (.slice none len cap) v):v=.slice none len cap:=by cases h;rfl
theorem bc.yG{v:Value}(h:bc μ (.pointer none) v):v=.pointer none:=by cases h;rfl
theorem bc.Bc{r:Nat}{v:Value}(h:bc μ (.map (some r)) v):∃L,μ r=some L/\v=.map (some L.r):=by
 cases h with
 |atom _ h=>simp[isAtom] at h
 |map id L bP=>exact⟨L,bP,rfl⟩
theorem bc.Bd{v:Value}(h:bc μ (.map none) v):v=.map none:=by cases h;rfl
theorem bc.sY{t:TypeId}{x v:Value}(h:bc μ (.iface t x) v):∃dg,v=.iface t dg/\bc μ x dg:=by
 cases h with
 |atom _ h=>simp[isAtom] at h
 |iface t v v' h=>exact⟨v',rfl,h⟩
theorem bc.Bl{v:Value}(h:bc μ .nilIface v):v=.nilIface:=by cases h;rfl
theorem bc.Ef{v:Value}(h:bc μ .nilFunc v):v=.nilFunc:=by cases h;rfl
theorem iX{t:TypeId}{n:Nat}(h:ea P t=some n)(w:World):(sizeOf t).run P w=.ok n w:=by
 unfold ea at h;cases ar:P.info? t with
 |none=>rw[ar] at h;cases h
 |some i=>rw[ar] at h;injection h with h;subst h;simp[sizeOf,typeInfo,ar]
theorem JQ{t:TypeId}{n:Nat}(h:ea P t=some n):P.cellsOf t=n:=by
 unfold ea at h;cases ar:P.info? t with
 |none=>rw[ar] at h;cases h
 |some i=>rw[ar] at h;injection h with h;subst h;simp[Program.cellsOf,ar]
theorem r3{t:TypeId}{z:Value}(h:fG P t=some z)(w:World):(zeroValue t).run P w=.ok z w:=by
 unfold fG at h;cases ar:P.info? t with
 |none=>rw[ar] at h;cases h
 |some i=>rw[ar] at h;simp only at h;simp[zeroValue,typeInfo,ar,h]
theorem ec{t:TypeId}{d:TypeDesc}(h:P.underlying t=some d)(w:World):(underlying t).run P w=.ok d w:=by
 simp[underlying,h]
theorem LN{t:TypeId}{n:Nat}(h:oR P t=some (some n)):(∀w,(isAgg t).run P w=.ok true w)/\ea P t=some n:=by
 unfold oR at h;cases ar:P.info? t with
 |none=>rw[ar] at h;cases h
 |some i=>
  rw[ar] at h;simp only at h;refine⟨fun w=>?_,?_⟩
  ·cases hu:P.underlying t with
   |none=>rw[hu] at h;cases h
   |some d=>rw[hu] at h;cases d<;>first|(simp[isAgg,underlying,hu];done)|(simp at h)
  ·cases hu:P.underlying t with
   |none=>rw[hu] at h;cases h
   |some d=>rw[hu] at h;cases d<;>first|(simp at h;simp[ea,ar,h];done)|(simp at h)
theorem LM{t:TypeId}(h:oR P t=some none):∀w,(isAgg t).run P w=.ok false w:=by
 unfold oR at h;cases ar:P.info? t with
 |none=>rw[ar] at h;cases h
 |some i=>
  rw[ar] at h;simp only at h;intro w;cases hu:P.underlying t with
  |none=>rw[hu] at h;cases h
  |some d=>rw[hu] at h;cases d<;>first|(simp[isAgg,underlying,hu];done)|(simp at h)
theorem MU{t:TypeId}{cs cw:List Value}{off:Nat}{v:Value}(al:bF μ cs cw)(he:kv P t cs off=some v)(w:World):
 ∃v',(part t cw.toArray off).run P w=.ok v' w/\bc μ v v':=by
 unfold kv at he;cases aK:oR P t with
 |none=>rw[aK] at he;cases he
 |some q=>
  rw[aK] at he;cases q with
  |none=>
   simp only[jU] at he;obtain⟨v',aa,ab⟩:=al.get he;refine⟨v',?_,ab⟩;simp[part,LM aK,aa]
  |some n=>
   simp only[tL] at he;obtain⟨aa,ab⟩:=LN aK;cases aM:takeN n (cs.drop off) with
   |none=>rw[aM] at he;cases he
   |some l=>
    rw[aM] at he;injection he with he;subst he
    obtain⟨aC,aZ,cJ⟩:=yP aM;refine⟨.agg ((cw.drop off).take n).toArray,?_,?_⟩
    ·simp[part,aa,iX ab]
    ·rw[aC];exact bc.Cx ((al.drop off).take n)
theorem bL.row(h:bL P B w0 μ H w){id:Nat}{L:Loc}{cells:List Value}{elem:TypeId}{opn:Bool}{bl dS:Nat}{sh:Bool}(bP:μ id=some L)(hm:H.mem.get id=some (.row cells elem opn bl dS sh)):
 ∃c f,w.heap[L.r]?=some (.cells c elem f)/\c.size=L.N/\P.cellsOf elem=L.sz/\cells.length<=L.N/\(opn=false->cells.length=L.N)/\bF μ cells (c.toList.take cells.length)/\GK L.N dS sh f:=by
 obtain⟨b,o,aR,aN,bG⟩:=h.e6 id L bP;rw[hm] at aR;injection aR with aR;subst aR
 cases o with
 |cells c e f=>
  obtain⟨rfl,cM,fo,ix,qA,Ez,BG⟩:=bG;refine⟨c,f,aN,cM,fo,ix,qA,⟨by simp;omega,fun i v v' a b=>?_⟩,BG⟩;rw[lW] at b;split at b
  ·exact Ez i v v' a (by simpa using b)
  ·cases b
 |_=>exact bG.elim
theorem bL.map(h:bL P B w0 μ H w){id:Nat}{L:Loc}{es:List MapEntry}{clock:Nat}(bP:μ id=some L)(hm:H.mem.get id=some (.map es clock)):
 ∃lb CI,w.heap[L.r]?=some (.map lb CI)/\uT μ es lb.toList:=by
 obtain⟨b,o,aR,aN,bG⟩:=h.e6 id L bP;rw[hm] at aR;injection aR with aR;subst aR
 cases o with
 |map lb bw=>exact⟨lb,bw,aN,bG⟩
 |_=>exact bG.elim
theorem bL.cells(h:bL P B w0 μ H w){id:Nat}{L:Loc}{cells:List Value}{elem:TypeId}{opn:Bool}{bl dS:Nat}{sh:Bool}(bP:μ id=some L)(hm:H.mem.get id=some (.row cells elem opn bl dS sh))
 {off n:Nat}{l:List Value}(aM:takeN n (np off cells)=some l):∃l',bF μ l l'/\l'.length=n/\(∀j v,l'[j]?=some v->w.cell? ⟨L.r,off+j,none⟩=some v):=by
 obtain⟨c,f,aa,ab,aY,bu,gI,hK,sA⟩:=h.row bP hm;obtain⟨aC,aZ,cJ⟩:=yP aM;rw[tL] at aC cJ;refine⟨((c.toList.take cells.length).drop off).take n,?_,?_,?_⟩
 ·rw[aC];exact(hK.drop off).take n
 ·have:=((hK.drop off).take n).1;rw[<-aC,aZ] at this;exact this.symm
 ·intro j v a5;rw[lW] at a5;split at a5
  ·rw[uY,lW] at a5;split at a5
   ·rw[cell_of_row aa];simpa using a5
   ·cases a5
  ·cases a5
theorem MR(h:bL P B w0 μ H w){t:TypeId}{id off:Nat}{L:Loc}{v:Value}(bP:μ id=some L)(he:xn P H t ⟨id,off,none⟩=some v):
 ∃v',(loadVar t ⟨L.r,off,none⟩).run P w=.ok v' w/\bc μ v v':=by
 simp only[xn] at he;cases hm:H.mem.get id with
 |none=>rw[hm] at he;cases he
 |some b=>
  rw[hm] at he;cases b with
  |row cells elem opn bl dS sh=>
   simp only at he;unfold kv at he;cases aK:oR P t with
   |none=>rw[aK] at he;cases he
   |some q=>
    rw[aK] at he;cases q with
    |none=>
     simp only[jU] at he;obtain⟨c,f,aa,ab,aY,bu,gI,hK,sA⟩:=h.row bP hm;obtain⟨v',cm,cn⟩:=hK.get he;refine⟨v',?_,cn⟩;rw[lW] at cm;split at cm
     ·have:w.cell? ⟨L.r,off,none⟩=some v':=by rw[cell_of_row aa];simpa using cm
      simp[loadVar,LM aK,load,Sem.run,this]
     ·cases cm
    |some n=>
     obtain⟨aa,ab⟩:=LN aK;simp only at he;cases aM:takeN n (np off cells) with
     |none=>rw[aM] at he;cases he
     |some l=>
      rw[aM] at he;injection he with he;subst he
      obtain⟨l',cm,cn,cR⟩:=h.cells bP hm aM;refine⟨.agg l'.toArray,?_,bc.Cx cm⟩;have:=run_loadCells_list (P:=P) w ⟨L.r,off,none⟩ l' (fun j v a5=>by rw[Addr.nY];exact cR j v a5);rw[cn] at this;simp[loadVar,aa,iX ab,this]
  |_=>cases he
theorem VA(h:bL P B w0 μ H w){t:TypeId}{p gg v:Value}(ao:bc μ p gg)(he:vw P H t p=some v):
 ∃v',(Instr.loadAt t gg).run P w=.ok v' w/\bc μ v v':=by
 unfold vw at he;cases p with
 |pointer a=>
  cases a with
  |none=>simp at he
  |some a=>
   obtain⟨id,off,L,rfl,bP,rfl⟩:=ao.me;simp only at he;obtain⟨v',aa,ab⟩:=MR h bP he;exact⟨v',by simp[Instr.loadAt,Instr.sureAddr,aa],ab⟩
 |_=>simp at he
theorem VI(h:bL P B w0 μ H w){t:TypeId}{p gg v v':Value}(ao:bc μ p gg)(ay:bc μ v v')(he:vx P H t p v=some H'):
 ∃a7,(Instr.storeAt t gg v').run P w=.ok () a7/\bL P B w0 μ H' a7/\Step μ μ H H':=by
 unfold vx at he;cases p with
 |pointer a=>
  cases a with
  |none=>simp at he
  |some a=>
   obtain⟨id,off,L,rfl,bP,rfl⟩:=ao.me;simp only at he;cases af:ea P t with
   |none=>rw[af] at he;cases he
   |some n=>
    rw[af] at he;simp only at he;cases ah:Nat.beq v.cells.toList.length n with
    |false=>rw[ah] at he;cases he
    |true=>
     rw[ah,b1] at he;obtain⟨a7,aa,ab,aY⟩:=CV h bP ay.cells he;have aw:=dX ah;have aA:=ay.cells.1;refine⟨a7,?_,ab,aY⟩;have dA:v'.cells.size=n:=by simp at aA aw;omega
     simp[Instr.storeAt,Instr.sureAddr,storeVar,iX af,dA,aa]
 |_=>simp at he
theorem Th{l l':List Value}(h:bF μ l l')(aK:l.all ev=true):∀v∈l',ev v=true:=fun v ay=>by
 obtain⟨i,ar⟩:=w4.1 ay;have Ar:i<l.length:=by have:=(hq.1 ar).1;have:=h.1;omega
 rw[(h.2 i l[i] v (eO Ar) ar).ev];exact qS.1 aK _ (List.getElem_mem Ar)
theorem I4(h:bL P B w0 μ H w){elem:TypeId}{cells cells':List Value}{id:Nat}(aL:bF μ cells cells')(aw:qn H elem cells=some (id,H')):
 ∃bd L,bL P B w0 bd H' (w.alloc (.cells cells'.toArray elem))/\Step μ bd H H'/\bd id=some L/\L.r=w.heap.size/\L.N=cells.length/\L.sz=P.cellsOf elem:=by
 have ah:ia P (μ.put H.ax ⟨w.heap.size,cells.length,P.cellsOf elem⟩) ⟨w.heap.size,cells.length,P.cellsOf elem⟩ (.row cells elem false 0 0 false) (.cells cells'.toArray elem):=by
  refine⟨rfl,by simp[aL.1],rfl,c5 _,fun _=>rfl,fun i v v' a b=>?_,?_⟩
  ·exact(aL.2 i v v' a (by simpa using b)).mono (h.rj _)
  ·exact⟨fun off _ aa ab=>by simp at ab,fun _=>.inl rfl⟩
 obtain⟨a,b,rfl⟩:=h.made aw rfl rfl ah;exact⟨_,_,a,b,bz.iw _ _ _,rfl,rfl,rfl⟩
theorem MO(h:bL P B w0 μ H w){elem:TypeId}{v v' r:Value}(ay:bc μ v v')(he:sv H elem v=some (r,H')):
 ∃cg a7 bd,(Instr.box elem v').run P w=.ok cg a7/\bL P B w0 bd H' a7/\Step μ bd H H'/\bc bd r cg:=by
 unfold sv at he;cases ag:v.cells.toList.all ev with
 |false=>rw[ag] at he;cases he
 |true=>
  rw[ag,b1] at he;cases aw:qn H elem v.cells.toList with
  |none=>rw[aw] at he;cases he
  |some p=>
   obtain⟨id,H1⟩:=p;rw[aw] at he;simp only[b9,c'] at he;obtain⟨rfl,rfl⟩:=he;obtain⟨bd,L,a,b,c,d,_⟩:=I4 h ay.cells aw;refine⟨.pointer (some ⟨w.heap.size,0,none⟩),_,bd,?_,a,b,?_⟩
   ·simp[Instr.box,newVar,newRow,newObj,Sem.run]
   ·rw[<-d];exact .ptr id 0 L c
theorem Vw{s:TypeId}{p gg v:Value}{f:Nat}(ao:bc μ p gg)(he:zV P s p f=some v)(w:World):
 ∃v',(Instr.fieldAt s gg f).run P w=.ok v' w/\bc μ v v':=by
 unfold zV at he;cases p with
 |pointer a=>
  cases a with
  |none=>simp at he
  |some a=>
   obtain⟨id,off,L,rfl,bP,rfl⟩:=ao.me;simp only at he;cases hu:P.underlying s with
   |none=>rw[hu] at he;cases he
   |some d=>
    rw[hu] at he;cases d with
    |struct fields=>
     simp only at he;cases az:fields[f]? with
     |none=>rw[az] at he;cases he
     |some fd=>
      rw[az] at he;simp only at he;cases af:ea P fd.type with
      |none=>rw[af] at he;cases he
      |some n=>
       rw[af] at he;cases n with
       |zero=>cases he
       |succ n=>
        simp only[b9] at he;subst he;refine⟨.pointer (some ⟨L.r,off+fd.offset,none⟩),?_,.ptr id _ L bP⟩;simp[Instr.fieldAt,ec hu,az,Instr.sureAddr,fieldPlace,iX af,Addr.nY]
    |_=>cases he
 |_=>simp at he
theorem Iz{i:Int}{len n:Nat}(h:qf i len=some n):i=(n:Int)/\n<len:=by
 unfold qf at h;cases i with
 |ofNat m=>
  simp only at h;cases ah:Nat.blt m len with
  |false=>rw[ah] at h;cases h
  |true=>
   rw[ah,b1] at h;injection h with h;subst h
   exact⟨rfl,gy ah⟩
 |negSucc m=>cases h
theorem yl{i:Int}{len n:Nat}(h:nC i len=some n):i=(n:Int)/\n<=len:=by
 unfold nC at h;cases i with
 |ofNat m=>
  simp only at h;cases ah:Nat.ble m len with
  |false=>rw[ah] at h;cases h
  |true=>
   rw[ah,b1] at h;injection h with h;subst h
   exact⟨rfl,gy ah⟩
 |negSucc m=>cases h
theorem bc.nD{k:IntKind}{n:Int}{v:Value}(h:bc μ (.int k n) v):v=.int k n:=by
 cases h;rfl
theorem bc.zw{b:Bool}{v:Value}(h:bc μ (.bool b) v):v=.bool b:=by cases h;rfl
theorem bc.BN{s:ByteArray}{v:Value}(h:bc μ (.string s) v):v=.string s:=by cases h;rfl
theorem Vx{t:TypeId}{x dg bj OY v:Value}(U:bc μ x dg)(ar:bc μ bj OY)(he:sx P t x bj=some v)(w:World):
 ∃v',(Instr.indexAt t dg OY).run P w=.ok v' w/\bc μ v v':=by
 unfold sx at he;cases bj with
 |int k i=>
  obtain rfl:=ar.nD;simp only at he;cases hu:P.underlying t with
  |none=>rw[hu] at he;simp at he
  |some d=>
   rw[hu] at he;cases d with
   |array len elem=>
    cases x with
    |pointer a=>
     cases a with
     |none=>simp at he
     |some a=>
        obtain⟨id,off,L,rfl,bP,rfl⟩:=U.me;simp only at he;cases aw:qf i len with
        |none=>rw[aw] at he;simp at he
        |some n=>
         rw[aw] at he;cases af:ea P elem with
         |none=>rw[af] at he;simp at he
         |some sz=>
          rw[af] at he;simp only[b9] at he;subst he;obtain⟨rfl,cD⟩:=Iz aw;refine⟨.pointer (some ⟨L.r,off+n*sz,none⟩),?_,.ptr id _ L bP⟩;simp[Instr.indexAt,asIntOf,ec hu,Instr.sureAddr,iX af,cD,Addr.nY]
    |_=>simp at he
   |slice elem=>
    cases x with
    |slice a len cap=>
     cases a with
     |none=>simp at he
     |some a=>
        have kB:a.spot=none:=by
         cases q:a.spot with
         |none=>rfl
         |some _=>simp[q] at he
        obtain⟨id,off,L,e0,dx,rfl,bP,rfl,ag,_,_⟩:=U.r2 (.inl kB);simp only at he;cases aw:qf i len with
        |none=>rw[aw] at he;simp at he
        |some n=>
         rw[aw] at he;cases af:ea P elem with
         |none=>rw[af] at he;simp at he
         |some sz=>
          rw[af] at he;simp only[b9] at he;subst he;obtain⟨rfl,cD⟩:=Iz aw;rw[ag (by omega)];refine⟨.pointer (some ⟨L.r,off+n*sz,none⟩),?_,.ptr id _ L bP⟩;simp[Instr.indexAt,asIntOf,ec hu,iX af,cD,Addr.nY]
    |_=>simp at he
   |_=>simp at he
 |_=>simp at he
end
end
end Go.Cre

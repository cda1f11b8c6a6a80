/- A part of the proof of TableClose. -/
import Derived.Test.YtpahonhejmlnpaaGreatDoorCal
set_option linter.unusedVariables false
set_option linter.unusedSimpArgs false
namespace Go.Cre
noncomputable section
open Go.RowKit
def aQ.ff {α:Type}:aQ α->(Nat->Bool)->aQ α
 |.leaf,_=>.leaf
 |.node v l r,p=>.node (if p 0 then v else none) (l.ff fun k=>p (2*k+1)) (r.ff fun k=>p (2*k+2))
theorem aQ.GP{α:Type}(t:aQ α):∀(p:Nat->Bool) (n:Nat),(t.ff p).get n=if p n then t.get n else none:=by
 induction t with
 |leaf=>intro p n;simp[aQ.ff,aQ.M9]
 |node v l r sZ s0=>
  intro p n;cases n with
  |zero=>simp[aQ.ff,aQ.z3]
  |succ m=>
   simp only[aQ.ff,aQ.n6];by_cases h:m % 2=0
   ·rw[bg h,bg h,sZ];have:2*(m / 2)+1=m+1:=by omega
    rw[this]
   ·rw[a3 h,a3 h,s0];have:2*(m / 2)+2=m+1:=by omega
    rw[this]
theorem aQ.Qk{α:Type}{a:α}{t:aQ α}:∀{jG:aQ α} {n:Nat} (p:Nat->Bool),aQ.put a t n=some jG->∃adU,aQ.put a (t.ff p) n=some adU:=by
 induction t with
 |leaf=>
  intro jG n p h;exact⟨jG,h⟩
 |node v l r sZ s0=>
  intro jG n p h;cases n with
  |zero=>exact⟨_,rfl⟩
  |succ m=>
   simp only[aQ.ff];rw[aQ.Ex] at h ⊢;by_cases hm:m % 2=0
   ·rw[bg hm] at h ⊢;cases aA:aQ.put a l (m / 2) with
    |none=>rw[aA] at h;cases h
    |some l'=>obtain⟨D3,e⟩:=sZ (fun k=>p (2*k+1)) aA;rw[e];exact⟨_,rfl⟩
   ·rw[a3 hm] at h ⊢;cases al:aQ.put a r (m / 2) with
    |none=>rw[al] at h;cases h
    |some cg=>obtain⟨ahU,e⟩:=s0 (fun k=>p (2*k+2)) al;rw[e];exact⟨_,rfl⟩
def aT.only (S:aT)(p:Nat->Bool):aT:=⟨S.T.ff p,S.n,S.ds,S.bB,S.bf,S.b8⟩
theorem aT.put_eq{S aB:aT}{dst:Option Tmp}{v:Value}(he:S.put dst v=some aB):
 aB.n=S.n/\aB.ds=S.ds/\aB.bB=S.bB/\aB.bf=S.bf/\aB.b8=S.b8/\∀t,aB.T.get t=if dst=some t then some v else S.T.get t:=by
 cases dst with
 |none=>
  have he:some S=some aB:=he;injection he with he;subst he
  exact⟨rfl,rfl,rfl,rfl,rfl,fun t=>by simp⟩
 |some d=>
  obtain⟨T,n,eY,bB,bf,b8⟩:=S;have he:Bool.rec (motive:=fun _=>Option aT) none (aT.pw n eY bB bf b8 (aQ.put v T d)) (Nat.ble (Nat.succ d) n)=some aB:=he;cases ah:Nat.ble (Nat.succ d) n with
  |false=>rw[ah] at he;cases he
  |true=>
   rw[ah] at he;have he:aT.pw n eY bB bf b8 (aQ.put v T d)=some aB:=he;cases ao:aQ.put v T d with
   |none=>rw[ao] at he;cases he
   |some di=>
    rw[ao] at he;have he:some (aT.mk di n eY bB bf b8)=some aB:=he;injection he with he;subst he
    refine⟨rfl,rfl,rfl,rfl,rfl,fun t=>?_⟩;show di.get t=_;rw[aQ.get_put ao];by_cases h:t=d
    ·subst h;simp
    ·rw[a3 h,a3 (fun q=>h (by injection q with q;exact q.symm))]
theorem aT.aci{S aB:aT}{dst:Option Tmp}{v:Value}(p:Nat->Bool)(he:S.put dst v=some aB):∃mx,(S.only p).put dst v=some mx:=by
 cases dst with
 |none=>exact⟨_,rfl⟩
 |some d=>
  obtain⟨T,n,eY,bB,bf,b8⟩:=S;have he:Bool.rec (motive:=fun _=>Option aT) none (aT.pw n eY bB bf b8 (aQ.put v T d)) (Nat.ble (Nat.succ d) n)=some aB:=he;show ∃mx,Bool.rec (motive:=fun _=>Option aT) none (aT.pw n eY bB bf b8 (aQ.put v (T.ff p) d)) (Nat.ble (Nat.succ d) n)=some mx;cases ah:Nat.ble (Nat.succ d) n with
  |false=>rw[ah] at he;cases he
  |true=>
   rw[ah] at he;have he:aT.pw n eY bB bf b8 (aQ.put v T d)=some aB:=he;cases ao:aQ.put v T d with
   |none=>rw[ao] at he;cases he
   |some di=>
    obtain⟨afC,e⟩:=aQ.Qk p ao;rw[e];exact⟨_,rfl⟩
section
variable {P:Program}{H:ai}{T di:aQ Value}{ops:List Oper}{o:Oper}
theorem Pg{t:Tmp}(h:Operand.tmp t∈o.op.operands):t∈looks ops o:=by
 unfold looks;exact tt _ (List.mem_filterMap.2 ⟨.tmp t,by simpa using h,rfl⟩)
theorem Er(h:∀t∈looks ops o,di.get t=T.get t):∀x∈o.op.operands,aW di H x=aW T H x:=fun x U=>by
 cases x with
 |tmp t=>exact h t (Pg U)
 |const c=>rfl
 |global g=>rfl
 |func f=>rfl
theorem abF(h:∀t∈looks ops o,di.get t=T.get t):∀x∈o.op.operands,nI di x=nI T x:=fun x U=>by
 cases x with
 |tmp t=>exact h t (Pg U)
 |const c=>rfl
 |global g=>rfl
 |func f=>rfl
theorem pU(h:∀t∈looks ops o,di.get t=T.get t):eZ ops di o=eZ ops T o:=by
 unfold eZ;cases aq:o.guard with
 |none=>rfl
 |some q=>
  obtain⟨j,want⟩:=q;show rm ops di (j,want)=rm ops T (j,want);unfold rm;simp only
  cases aw:nth ops j with
  |none=>rfl
  |some p=>
   simp only
   cases au:p.dst with
   |none=>rfl
   |some d=>
    simp only
    rw[h d (by unfold looks;rw[aq];simp only[aw,au];exact d' _ (by simp))]
theorem abQ:∀{l:List (Nat×Operand)},(∀x∈l.map (·.2),nI di x=nI T x)->pu di l=pu T l:=by
 intro l;induction l with
 |nil=>intro _;rfl
 |cons x l aP=>
  intro h;obtain⟨i,x⟩:=x;simp only[pu];rw[h x (by simp),aP fun y aF=>h y (by simp at aF ⊢;exact .inr aF)]
theorem FM(h:∀t∈looks ops o,di.get t=T.get t):k' P di o.op=k' P T o.op:=by
 have h:=abF h;cases ag:o.op<;>rw[ag] at h<;>simp only[Op.operands] at h<;>simp only[k']
 case box e x=>rw[h x (by simp)]
 case buildSlice t n ps=>rw[abQ fun x U=>h x (by simpa using U)]
 case makeSlice t l c=>rw[h l (by simp),h c (by simp)]
 case makeMap t r=>cases r<;>rfl
end
theorem Tf{f:Value->Value->Bool}(az:∀x y,f x y=true->x=y):∀{l m:List Value},gP f l m=true->l=m:=by
 intro l;induction l with
 |nil=>intro m h;cases m with
  |nil=>rfl
  |cons=>cases h
 |cons x l aP=>intro m h;cases m with
  |nil=>cases h
  |cons y m=>
   simp only[gP,fp] at h;rw[az x y h.1,aP h.2]
theorem LL{a b:Option Addr}(h:addrEq a b=true):a=b:=by
 unfold addrEq at h;split at h
 ·rfl
 ·simp only[fp] at h;rw[dX h.1,dX h.2]
 ·rfl
 ·cases h
theorem aeK:∀{n:Nat} {a b:Value},c4 n a b=true->a=b:=by
 intro n;induction n with
 |zero=>intro a b h;cases h
 |succ n aP=>
  intro a b h;have arr:∀{x y:Array Value},gP (c4 n) x.toList y.toList=true->x=y:=fun q=>oG (Tf (fun _ _ z=>aP z) q);unfold c4 at h;split at h
  ·rename_i a b;cases a<;>cases b<;>first|rfl|cases h
  ·simp only[fp] at h;rw[O3 h.1];have:=h.2;rw[yj] at this;rw[eq_of_beq this]
  ·rename_i a b;have:=yz h;obtain⟨⟨x⟩⟩:=a;obtain⟨⟨y⟩⟩:=b;simp at this;rw[this]
  ·rw[LL h]
  ·simp only[fp] at h;rw[LL h.1.1,dX h.1.2,dX h.2]
  ·rename_i a b;cases a<;>cases b<;>simp only[PB] at h<;>first|rfl|cases h|(rw[dX h])
  ·rfl
  ·rfl
  ·simp only[fp] at h;rw[dX h.1,aP h.2]
  ·rw[arr h]
  ·rw[arr h]
  ·simp only[fp] at h;rename_i f a b g c d;have:f=g:=by
    have:=h.1.1;unfold MZ at this;split at this
    ·rw[dX this]
    ·cases this
   rw[this,arr h.1.2,arr h.2]
  ·cases h
section
variable {P:Program}{B:Nat->Prop}{w0 w:World}{μ:bz}{H H':ai}
theorem bL.abX(h:bL P B w0 μ H w){a:Nat}{b:eF}(aw:H.new b=some (a,H'))(ag:iJ (some b)=false):bL P B w0 μ H' w:=by
 obtain⟨rfl,aC,aZ,cJ,eo,cp⟩:=ai.mb aw;have dk:∀x L,μ x=some L->H'.mem.get x=H.mem.get x:=fun x L U=>by
  have:=h.lt x L U;rw[cp,a3 (by omega)]
 refine⟨h.below,h.lB,?_,?_,?_,?_,?_,?_,?_,?_,?_,?_⟩
 ·intro x L U;obtain⟨b',o',aa,ab,aY⟩:=h.e6 x L U;exact⟨b',o',by rw[dk x L U];exact aa,ab,aY⟩
 ·intro x y gw gG dT U aF lE;rcases h.sep x y gw gG dT U aF lE with d|d|⟨f,l,⟨c,e,z,s,q⟩,⟨bw,bk,gi,df,c3⟩,aA,cE,eW⟩
  ·exact .inl (by rw[dk x gw U];exact d)
  ·exact .inr (.inl (by rw[dk y gG aF];exact d))
  ·exact .inr (.inr ⟨f,l,⟨c,e,z,s,by rw[dk x gw U];exact q⟩,⟨bw,bk,gi,df,by rw[dk y gG aF];exact c3⟩,by rw[aZ];exact aA,cE,eW⟩)
 ·intro x L U;have:=h.lt x L U;omega
 ·intro x L U aq;exact h.own x L U (by omega)
 ·intro x L U aq dz;exact h.new x L U (by omega) (by rw[dk x L U] at dz;exact dz)
 ·intro g c e o f z s aq hm;have vR:g≠H.ax:=by have:=h.iN;omega
  rw[cp,a3 vR] at hm;exact h.pT g c e o f z s (by omega) hm
 ·have:=h.iN;omega
 ·intro x c e f z s hm;rw[cp] at hm;split at hm
  ·injection hm with hm;rw[hm] at ag;simp[iJ] at ag
  ·rw[cJ];exact h.n4 x c e f z s hm
 ·intro f l x aA U;rw[aZ] at aA;obtain⟨a,d⟩:=h.jC f l x aA U;refine⟨by omega,?_⟩;rw[cp,a3 (by omega)];exact d
 ·intro f l aA;rw[aZ] at aA;refine(h.rk f l aA).imp_of_mem ?_;intro x y U aF dT c e f1 z s bw bk cz gi df q c3;have gn:=(h.jC f l x aA U).1;have ui:=(h.jC f l y aA aF).1;rw[cp,a3 (by omega)] at q c3;exact dT c e _ z s bw bk cz gi df q c3
theorem bL.fill(h:bL P B w0 μ H w){a:Nat}{b:eF}{o:Obj}{L:Loc}(hm:μ a=none)(cD:a<H.ax)(aq:H.bp<=a)(fC:H.mem.get a=some b)(al:L.r=w.heap.size)(ah:ia P μ L b o):
 bL P B w0 (μ.put a L) H (w.alloc o)/\Ext μ (μ.put a L):=by
 have iP:Ext μ (μ.put a L):=fun id bC U=>by
  by_cases e:id=a
  ·subst e;rw[hm] at U;cases U
  ·rw[bz.qy _ _ e];exact U
 have dk:∀x bC,(μ.put a L) x=some bC->x≠a->μ x=some bC:=fun x bC q b=>by rwa [bz.qy _ _ b] at q
 have HK:∀x bC,μ x=some bC->bC.r<w.heap.size:=fun x bC U=>by
  obtain⟨b',o',_,ag,_⟩:=h.e6 x bC U;rcases hr bC.r w.heap.size with cS|cS
  ·exact cS
  ·rw[pC cS] at ag;cases ag
 refine⟨⟨h.below.alloc h.lB o,?_,?_,?_,?_,?_,?_,?_,h.iN,h.n4,h.jC,h.rk⟩,iP⟩
 ·intro k hk;have:=h.lB k hk;show k<(w.heap.push o).size;rw[KF];omega
 ·intro x bC U;by_cases cV:x=a
  ·subst cV;rw[bz.iw] at U;injection U with U;subst U
   exact⟨b,o,fC,by rw[xQ,al];simp,ah.mono iP⟩
  ·have gn:=dk x bC U cV;obtain⟨b',o',aa,ab,aY⟩:=h.e6 x bC gn;exact⟨b',o',aa,by rw[xQ,a3 (by have:=HK x bC gn;omega)];exact ab,aY.mono iP⟩
 ·intro x y gw gG dT U aF lE;by_cases cV:x=a
  ·subst cV;rw[bz.iw] at U;injection U with U;subst U
   have:=HK y gG (dk y gG aF (Ne.symm dT));omega
  ·by_cases jh:y=a
   ·subst jh;rw[bz.iw] at aF;injection aF with aF;subst aF
    have:=HK x gw (dk x gw U cV);omega
   ·exact h.sep x y gw gG dT (dk x gw U cV) (dk y gG aF jh) lE
 ·intro x bC U;by_cases cV:x=a
  ·omega
  ·exact h.lt x bC (dk x bC U cV)
 ·intro x bC U An;have cV:x≠a:=by omega
  exact h.own x bC (dk x bC U cV) An
 ·intro x bC U An dz;by_cases cV:x=a
  ·subst cV;rw[bz.iw] at U;injection U with U;subst U
   rw[al];exact fun q=>u3 _ (h.lB _ q)
  ·exact h.new x bC (dk x bC U cV) An dz
 ·intro g c e o f z s An HL;obtain⟨bC,bP⟩:=h.pT g c e o f z s An HL;exact⟨bC,iP _ _ bP⟩
theorem JI{cells cells':List Value}{elem:TypeId}(aL:bF μ cells cells')(r:Nat):ia P μ ⟨r,cells.length,P.cellsOf elem⟩ (.row cells elem false 0 0 false) (.cells cells'.toArray elem):=
 ⟨rfl,by simp[aL.1],rfl,c5 _,fun _=>rfl,fun i v v' a b=>aL.2 i v v' a (by simpa using b),fun off _ aa ab=>by simp at ab,fun _=>.inl rfl⟩
def hp.ok:hp->Bool
 |.wG _ c=>decide (c<cu)
 |_=>true
theorem hp.rel{dN:hp}(h:dN.ok=true){a:Nat}{L:Loc}(hm:μ a=some L):bc μ (dN.at a) (dN.at L.r):=by
 cases dN with
 |ptr=>exact .ptr a 0 L hm
 |wG l c=>exact .lq a 0 l c L hm (yz h)
 |map=>exact .map a L hm
def E7(P:Program)(μ:bz)(w:World)(s:Sem Value)(b:eF)(dN:hp):Prop:=
 ∃mW N sz,s.run P w=.ok (dN.at w.heap.size) (w.alloc mW)/\ia P μ ⟨w.heap.size,N,sz⟩ b mW/\iJ (some b)=false/\dN.ok=true
theorem LQ{elem:TypeId}{v v':Value}{b:eF}{dN:hp}(ay:bc μ v v')(he:u7 elem v=some (b,dN))(w:World):E7 P μ w (Instr.box elem v') b dN:=by
 unfold u7 at he;cases ag:v.cells.toList.all ev with
 |false=>rw[ag] at he;cases he
 |true=>
  rw[ag,b1] at he;simp only[b9,c'] at he;obtain⟨rfl,rfl⟩:=he;refine⟨_,_,_,?_,JI ay.cells _,rfl,rfl⟩;simp[Instr.box,newVar,newRow,newObj,Sem.run,hp.at]
theorem Tk{t:TypeId}{l l' c bw:Value}{b:eF}{dN:hp}(aA:bc μ l l')(aL:bc μ c bw)(he:zs P t l c=some (b,dN))(w:World):E7 P μ w (Instr.makeSlice t l' bw) b dN:=by
 unfold zs at he;cases l with
 |int a9 l=>
  cases c with
  |int a4 c=>
   obtain rfl:=aA.nD;obtain rfl:=aL.nD;cases hu:P.underlying t with
   |none=>rw[hu] at he;simp at he
   |some d=>
    rw[hu] at he;cases d with
    |slice elem=>
     simp only at he;cases a0:fG P elem with
     |none=>rw[a0] at he;simp at he
     |some z=>
      rw[a0] at he;cases gJ:q6 P elem with
      |none=>rw[gJ] at he;simp at he
      |some gq=>
       rw[gJ] at he;cases af:ea P elem with
       |none=>rw[af] at he;simp at he
       |some sz=>
        rw[af] at he;simp only at he;cases pZ:nC c 1000000 with
        |none=>rw[pZ] at he;simp at he
        |some jA=>
         rw[pZ] at he;cases db:nC l 1000000 with
         |none=>rw[db] at he;simp at he
         |some f'=>
          rw[db] at he;simp only at he;cases sF:(Nat.ble f' jA&&Nat.ble gq 1000000&&Nat.beq z.cells.toList.length sz&&z.cells.toList.all ev&&plain z) with
          |false=>rw[sF] at he;simp at he
          |true=>
           rw[sF,b1] at he;simp only[fp] at sF;obtain⟨⟨⟨⟨aR,aN⟩,bG⟩,dd⟩,fm⟩:=sF;have aR:=gy aR;have aN:=gy aN;have bG:=dX bG;obtain⟨rfl,hd⟩:=yl pZ;obtain⟨rfl,fZ⟩:=yl db;simp only[b9,c'] at he;obtain⟨rfl,rfl⟩:=he;have ph:bF μ z.cells.toList z.cells.toList:=(mZ fm).cells;have sE:bF μ (eN z.cells.toList jA) (eN z.cells.toList jA):=bF.yN fun v ay=>by
               exact B5 (p:=fun v=>bc μ v v) ay (fun u hu=>by
                obtain⟨i,ar⟩:=w4.1 hu;exact ph.2 i u u ar ar)
           refine⟨_,_,_,?_,JI sE _,rfl,g2 (by have:(1000000:Nat)<cu:=by decide
                                              omega)⟩
           obtain⟨i,ar,rfl⟩:=F3 gJ
           have ot:i.zero=some z:=by simpa[fG,ar] using a0
           have pb:i.size=sz:=by simpa[ea,ar] using af
           have hmul:i.bytes*jA<=1000000*1000000:=pJ aN hd;have kC:=B6 z.cells.toList jA;have fK:=run_make (P:=P) w t elem i z hu ar ot a9 a4 (f':Int) (jA:Int) (by omega) (by omega) (by
               have:(i.bytes:Int)*(jA:Int)=((i.bytes*jA:Nat):Int):=by simp
               rw[this];omega) (by omega)
           rw[fK];simp only[jq,hp.at];congr 3
           rw[<-kC];simp[madeCells,pb,<-bG]
    |_=>simp at he
  |_=>simp at he
 |_=>simp at he
theorem Ti{t:TypeId}{len:Nat}{parts kF:List (Nat×Value)}{b:eF}{dN:hp}(ao:si μ parts kF)(he:zr P t len parts=some (b,dN))(w:World):E7 P μ w (Instr.buildSlice t len kF.toArray) b dN:=by
 unfold zr at he;cases hu:P.underlying t with
 |none=>rw[hu] at he;simp at he
 |some d=>
  rw[hu] at he;cases d with
  |slice elem=>
   simp only at he;cases af:ea P elem with
   |none=>rw[af] at he;simp at he
   |some sz=>
    rw[af] at he;cases a0:fG P elem with
    |none=>rw[a0] at he;simp at he
    |some z=>
     rw[a0] at he;simp only at he;cases aL:(Nat.ble len 100000&&Nat.ble (len*sz) 100000&&plain z&&Nat.beq z.cells.toList.length sz) with
     |false=>rw[aL] at he;simp at he
     |true=>
      rw[aL,b1] at he;simp only[fp] at aL;obtain⟨⟨⟨m1,aR⟩,aN⟩,bG⟩:=aL;have m1:=gy m1;have aR:=gy aR;have bG:=dX bG;cases az:lc (fun i=>some (i*sz,sz)) (eN z.cells.toList len) parts with
      |none=>rw[az] at he;simp at he
      |some cells=>
       rw[az] at he;simp only at he;cases ag:cells.all ev with
       |false=>rw[ag] at he;simp at he
       |true=>
        rw[ag,b1] at he;simp only[b9,c'] at he;obtain⟨rfl,rfl⟩:=he;have ph:bF μ z.cells.toList z.cells.toList:=(mZ aN).cells;have sE:bF μ (eN z.cells.toList len) (eN z.cells.toList len):=bF.yN fun v ay=>
         B5 (p:=fun v=>bc μ v v) ay (fun u hu=>by
           obtain⟨i,ar⟩:=w4.1 hu;exact ph.2 i u u ar ar)
        obtain⟨cg,a,b⟩:=C1 ao sE az
        refine⟨_,_,_,?_,JI b _,rfl,g2 (by have:(100000:Nat)<cu:=by decide
                                          omega)⟩
        have kC:=B6 z.cells.toList len;have Zh:z.cells.size=sz:=by simpa using bG
        have Hp:¬(16777216<len*sz):=by omega
        rw[bG] at kC;simp only[Se] at kC;by_cases aX:len*sz=0
        ·have sL:eN z.cells.toList len=[]:=uZ.1 (by rw[Kz,bG];exact aX)
         rw[sL] at a;have bE:Instr.fill (fun i=>some (i*sz,sz)) (Array.map (fun _=>(default:Value)) (Array.range 0)) kF=some cg.toArray:=by
          have ku:Array.map (fun _:Nat=>(default:Value)) (Array.range 0)=#[]:=by simp
          rw[ku];exact a
         simp[Instr.buildSlice,ec hu,iX af,aX,bE,newRow,newObj,Sem.run,hp.at]
        ·have bE:Instr.fill (fun i=>some (i*sz,sz)) ((Array.range (len*sz)).map fun i=>z.cells[i % z.cells.size]!) kF=some cg.toArray:=by rw[kC];exact a
         simp[Instr.buildSlice,ec hu,iX af,Hp,aX,r3 a0,bE,newRow,newObj,Sem.run,hp.at]
  |_=>simp at he
theorem Ep{T:aQ Value}{n:Nat}{tmps:Array Value}(aM:iE μ T n tmps){x:Operand}{v:Value}(he:nI T x=some v):bc μ v (cQ tmps x):=by
 cases x with
 |tmp t=>exact aM.2 t v he
 |const c=>
  have he:(bif plain c then some c else none)=some v:=he;cases ao:plain c with
  |false=>rw[ao] at he;simp at he
  |true=>rw[ao] at he;simp at he;subst he;exact mZ ao
 |global g=>cases he
 |func f=>
  have he:some (Value.func (.func f) #[] #[])=some v:=he;injection he with he;subst he
  exact .func _ _ _ _ _ rfl rfl rfl (fun i v v' q=>by simp at q) (fun i v v' q=>by simp at q)
theorem abS{T:aQ Value}{n:Nat}{tmps:Array Value}(aM:iE μ T n tmps):∀{l:List (Nat×Operand)} {ps:List (Nat×Value)},pu T l=some ps->si μ ps (l.map fun(i,x)=>(i,cQ tmps x)):=by
 intro l;induction l with
 |nil=>intro ps h;simp[pu] at h;subst h;exact⟨rfl,fun i p gg q=>by simp at q⟩
 |cons x l aP=>
  intro ps h;obtain⟨i,x⟩:=x;simp only[pu] at h;cases aa:nI T x with
  |none=>rw[aa] at h;cases h
  |some v=>
   rw[aa] at h;cases ab:pu T l with
   |none=>rw[ab] at h;cases h
   |some r=>
    rw[ab] at h;injection h with h;subst h
    have:=aP ab;refine⟨by simp[this.1],fun j p gg q c3=>?_⟩;cases j with
    |zero=>simp at q c3;subst q;subst c3;exact⟨rfl,Ep aM aa⟩
    |succ j=>exact this.2 j p gg (by simpa using q) (by simpa using c3)
theorem Pd{t:TypeId}{r:Operand}{b:eF}{dN:hp}(he:A8 P t r=some (b,dN)):b=.dead/\dN=.map/\r=.const (.int .i64 (.ofNat 0))/\∃key el,P.underlying t=some (.map key el):=by
 unfold A8 at he;split at he
 ·cases hu:P.underlying t with
  |none=>rw[hu] at he;cases he
  |some d=>
   rw[hu] at he;cases d with
   |map a c=>
    simp only[b9,c'] at he;exact⟨he.1.symm,he.2.symm,rfl,a,c,rfl⟩
   |_=>cases he
 ·cases he
theorem Tl{T:aQ Value}{n:Nat}{tmps:Array Value}{o:Oper}{b:eF}{dN:hp}(aM:iE μ T n tmps)(he:k' P T o.op=some (b,dN))(w:World):
 ∃mW N sz,(execOp (cQ tmps) o).run P w=.ok (.value (dN.at w.heap.size)) (w.alloc mW)/\ia P μ ⟨w.heap.size,N,sz⟩ b mW/\iJ (some b)=false/\dN.ok=true:=by
 cases ag:o.op<;>rw[ag] at he<;>simp only[k'] at he
 case alloc elem=>
  cases a0:fG P elem with
  |none=>rw[a0] at he;cases he
  |some z=>
   rw[a0] at he;cases ao:plain z with
   |false=>simp only[ao] at he;cases he
   |true=>
    simp only[ao,b1] at he;obtain⟨mW,N,sz,bx,bX,cy,c0⟩:=LQ (P:=P) (mZ (μ:=μ) ao) he w;refine⟨mW,N,sz,?_,bX,cy,c0⟩;have:(Instr.alloc elem true (.tuple #[])).run P w=.ok (dN.at w.heap.size) (w.alloc mW):=by simpa[Instr.alloc,Instr.box,r3 a0] using bx
    simp[execOp,ag,this]
 case box elem x=>
  cases U:nI T x with
  |none=>rw[U] at he;cases he
  |some v=>
   rw[U] at he;obtain⟨mW,N,sz,bx,bX,cy,c0⟩:=LQ (P:=P) (Ep aM U) he w;exact⟨mW,N,sz,by simp[execOp,ag,bx],bX,cy,c0⟩
 case buildSlice t len parts=>
  cases U:pu T parts.toList with
  |none=>rw[U] at he;cases he
  |some ps=>
   rw[U] at he;obtain⟨mW,N,sz,bx,bX,cy,c0⟩:=Ti (P:=P) (abS aM U) he w;have aC:(parts.toList.map fun(i,x)=>(i,cQ tmps x)).toArray=parts.map fun(i,x)=>(i,cQ tmps x):=by apply oG;simp
   rw[aC] at bx;exact⟨mW,N,sz,by simp[execOp,ag,bx],bX,cy,c0⟩
 case makeMap t r=>
  cases r with
  |some r=>
   obtain⟨rfl,rfl,rfl,key,el,hu⟩:=Pd (show A8 P t r=some (b,dN) from he);exact⟨.map #[] 0,0,0,by simp[execOp,ag,Instr.makeMap,newObj,Sem.run,hp.at,ec hu,cQ,asInt,asIntOf],trivial,rfl,rfl⟩
  |none=>
   simp only[b9,c'] at he;obtain⟨rfl,rfl⟩:=he;exact⟨.map #[] 0,0,0,by simp[execOp,ag,Instr.makeMap,newObj,Sem.run,hp.at],uT.nil _,rfl,rfl⟩
 case makeSlice t l c=>
  cases aa:nI T l with
  |none=>rw[aa] at he;cases he
  |some Pk=>
   cases ab:nI T c with
   |none=>rw[aa,ab] at he;cases he
   |some gk=>
    rw[aa,ab] at he;obtain⟨mW,N,sz,bx,bX,cy,c0⟩:=Tk (P:=P) (Ep aM aa) (Ep aM ab) he w;exact⟨mW,N,sz,by simp[execOp,ag,bx],bX,cy,c0⟩
 all_goals cases he
end
end
end Go.Cre
namespace Go.Cre
noncomputable section
open Go.RowKit
theorem uK(a b i:Nat):Nat.testBit (Nat.lor a b) i=(a.testBit i||b.testBit i):=Nat.testBit_or a b i
theorem EO(a b i:Nat):Nat.testBit (Nat.land a b) i=(a.testBit i&&b.testBit i):=Nat.testBit_and a b i
theorem EP(i j:Nat):Nat.testBit (Nat.pow 2 i) j=decide (i=j):=Nat.testBit_two_pow (n:=i) (m:=j)
theorem jH{C i j:Nat}:Nat.testBit (Nat.lor C (Nat.pow 2 i)) j=true↔Nat.testBit C j=true\/i=j:=by
 rw[uK,EP];simp
theorem JY{a b:Nat}(h:sub a b=true){i:Nat}(ar:a.testBit i=true):b.testBit i=true:=by
 have h:=dX h;rw[<-h,EO] at ar;simp at ar;exact ar.2
theorem MH{l:List Edge}{i:Nat}:(xj l).testBit i=true↔∃e∈l,Region.binds .any e=true/\e.on=i:=by
 induction l with
 |nil=>simp[xj]
 |cons e l aP=>
  simp only[xj];cases ah:Region.binds .any e with
  |false=>simp[aP,ah]
  |true=>rw[b1,uK,EP];simp[aP,ah]
theorem aae{l:List Nat}{i:Nat}:(wa l).testBit i=true↔i∈l:=by
 induction l with
 |nil=>simp[wa]
 |cons e l aP=>
  simp only[wa];rw[uK,EP,tr,aP,gj,decide_eq_true_iff];exact⟨fun q=>q.imp Eq.symm id,fun q=>q.imp Eq.symm id⟩
theorem Zx{C:Nat}:∀{n:Nat},DY C n=true->∀i,i<n->C.testBit i=true:=by
 intro n;induction n with
 |zero=>intro _ i ar;omega
 |succ n aP=>
  intro h i ar;simp only[DY,fp] at h;by_cases e:i=n
  ·subst e;exact h.1
  ·exact aP h.2 i (by omega)
theorem abg{C i:Nat}:∀{l:List Oper} {k:Nat},only C i l k=true->∀j o,l[j]?=some o->C.testBit (k+j)=true\/k+j=i\/sub (Oper.hi o) C=false:=by
 intro l;induction l with
 |nil=>intro k _ j o h;simp at h
 |cons a l aP=>
  intro k h j o ag;simp only[only,fp,tr,pD] at h;cases j with
  |zero=>
   simp at ag;subst ag;rcases h.1 with(q|q)|q
   ·exact .inl q
   ·exact .inr (.inl (dX q))
   ·exact .inr (.inr q)
  |succ j=>
   have:=aP h.2 j o (by simpa using ag);have e:k+1+j=k+(j+1):=by omega
   rw[e] at this;exact this
theorem Tg{cf dv C:Nat}:∀{l:List Nat},Cy cf dv C l=true->∀i∈l,C.testBit i=true/\dv.testBit i=false:=by
 intro l;induction l with
 |nil=>intro _ i ar;simp at ar
 |cons a l aP=>
  intro h i ar;simp only[Cy,fp,pD] at h;rcases gj.1 ar with rfl|ar
  ·exact h.1
  ·exact aP h.2 i ar
theorem Uj{ops:List Oper}{D:Nat->Bool}(au:∀i o j,D i=true->ops[i]?=some o->(Oper.hi o).testBit j=true->D j=true):∀{n K:Nat},(∀i,K.testBit i=true->D i=true)->∀i,(q8 ops n K).testBit i=true->D i=true:=by
 intro n;induction n with
 |zero=>intro K h i ar;exact h i ar
 |succ n aP=>
  intro K h i ar;simp only[q8] at ar;refine aP (fun j a5=>?_) i ar;cases ah:K.testBit n with
  |false=>rw[ah] at a5;exact h j a5
  |true=>
   rw[ah,b1] at a5;rw[jU] at a5;cases ag:ops[n]? with
   |none=>rw[ag] at a5;exact h j a5
   |some o=>
    rw[ag] at a5;simp only at a5;rw[uK] at a5;simp only[tr] at a5;rcases a5 with q|q
    ·exact h j q
    ·exact au n o j (h n ah) ag q
theorem Tj{l:List Oper}:∀{k j:Nat} {o:Oper},l[j]?=some o->um o.op=true->(tC l k).testBit (k+j)=true:=by
 induction l with
 |nil=>intro k j o h;simp at h
 |cons a l aP=>
  intro k j o ag aK;simp only[tC];rw[uK];cases j with
  |zero=>simp at ag;subst ag;rw[aK,b1,EP];simp
  |succ j=>
   have:=aP (k:=k+1) (by simpa using ag) aK;have e:k+1+j=k+(j+1):=by omega
   rw[e] at this;rw[this];simp
structure sj (ops:List Oper) (cf:Nat):Prop where
 dst:∀(i j:Nat) a b d,ops[i]?=some a->ops[j]?=some b->i≠j->a.dst=some d->b.dst≠some d
 look:∀(i j:Nat) a b d,ops[i]?=some a->ops[j]?=some b->a.dst=some d->d∈looks ops b->(Oper.hi b).testBit i=true\/(cf.testBit i=true/\(i=j\/(Oper.hi a).testBit j=true))
 down:∀(i:Nat) a j,ops[i]?=some a->(Oper.hi a).testBit j=true->j<i
 bA:∀(i:Nat) a,ops[i]?=some a->cf.testBit i=false->ym a.op=false
theorem abP{ops:List Oper}{cf i:Nat}{a:Oper}:∀{l:List Oper} {k:Nat},Es ops cf i a l k=true->∀j b,l[j]?=some b->yF ops cf i (k+j) a b=true:=by
 intro l;induction l with
 |nil=>intro k _ j b h;simp at h
 |cons c l aP=>
  intro k h j b ah;simp only[Es,fp] at h;cases j with
  |zero=>simp at ah;subst ah;exact h.1
  |succ j=>
   have:=aP h.2 j b (by simpa using ah);have e:k+1+j=k+(j+1):=by omega
   rw[e] at this;exact this
theorem Js{ops:List Oper}{cf:Nat}:∀{l:List Oper} {k:Nat},BB ops cf l k=true->∀i a,l[i]?=some a->
 (∀j b,ops[j]?=some b->yF ops cf (k+i) j a b=true)/\(Oper.hi a)<2 ^ (k+i)/\(cf.testBit (k+i)=true\/ym a.op=false):=by
 intro l;induction l with
 |nil=>intro k _ i a h;simp at h
 |cons c l aP=>
  intro k h i a aK;simp only[BB,fp,tr,pD] at h;cases i with
  |zero=>
   simp at aK;subst aK;refine⟨fun j b ah=>?_,gy h.1.1.2,h.1.2⟩;have:=abP h.1.1.1 j b ah;simpa using this
  |succ i=>
   have:=aP h.2 i a (by simpa using aK);have e:k+1+i=k+(i+1):=by omega
   rw[e] at this;exact this
theorem ade{ops:List Oper}{cf:Nat}(h:BB ops cf ops 0=true):sj ops cf:=by
 have ao:∀(i j:Nat) a b,ops[i]?=some a->ops[j]?=some b->yF ops cf i j a b=true:=fun i j a b aK ah=>by
  have:=(Js h i a aK).1 j b ah;simpa using this
 refine⟨fun i j a b d aK ah X0 au vO=>?_,fun i j a b d aK ah au aA=>?_,fun i a j aK a5=>?_,fun i a aK aL=>?_⟩
 ·have:=ao i j a b aK ah;simp only[yF,fp,tr,pD] at this;rcases this.1 with q|q
  ·exact X0 (dX q)
  ·simp[QO,au,vO] at q
 ·have:=ao i j a b aK ah;simp only[yF,fp,tr,pD] at this;rcases this.2 with(q|q)|q
  ·exfalso;simp only[IP,au] at q;rw[List.any_eq_false] at q;exact q d aA (by simp)
  ·exact .inl q
  ·exact .inr ⟨q.1,q.2.imp (fun x=>dX x) id⟩
 ·have ab:=(Js h i a aK).2.1;rw[nh] at ab;rcases hr j i with q|q
  ·exact q
  ·have aY:(Oper.hi a)<2 ^ j:=jL ab (zl (by omega) q);rw[Nat.testBit_lt_two_pow aY] at a5;cases a5
 ·have ab:=(Js h i a aK).2.2;rw[nh] at ab;rcases ab with q|q
  ·rw[q] at aL;cases aL
  ·exact q
theorem LR{P:Program}{T:aQ Value}{op:Op}{b:eF}{dN:hp}(he:k' P T op=some (b,dN)):iJ (some b)=false:=by
 have box:∀{elem v},u7 elem v=some (b,dN)->iJ (some b)=false:=fun{elem v} q=>by
  unfold u7 at q;cases ag:v.cells.toList.all ev with
  |false=>rw[ag] at q;cases q
  |true=>rw[ag,b1] at q;simp only[b9,c'] at q;obtain⟨rfl,rfl⟩:=q;rfl
 have fin:∀{c:Bool} {cells:List Value} {elem:TypeId} {k:hp},(bif c then some (eF.row cells elem false 0 0 false,k) else none)=some (b,dN)->iJ (some b)=false:=fun{c cells elem k} q=>by
  cases c with
  |false=>cases q
  |true=>simp only[b1,b9,c'] at q;obtain⟨rfl,rfl⟩:=q;rfl
 cases op<;>simp only[k'] at he
 case alloc elem=>
  split at he
  ·rename_i z _;cases ao:plain z with
   |false=>rw[ao] at he;cases he
   |true=>rw[ao,b1] at he;exact box he
  ·cases he
 case box elem x=>
  split at he
  ·exact box he
  ·cases he
 case buildSlice t len ps=>
  split at he
  ·unfold zr at he;split at he
   ·split at he
    ·rename_i sz z _ _;cases aL:(Nat.ble len 100000&&Nat.ble (len*sz) 100000&&plain z&&Nat.beq z.cells.toList.length sz) with
     |false=>rw[aL] at he;cases he
     |true=>
      rw[aL,b1] at he;split at he
      ·exact fin he
      ·cases he
    ·cases he
   ·cases he
  ·cases he
 case makeMap t r=>
  cases r with
  |some r=>obtain⟨rfl,rfl,_⟩:=Pd (show A8 P t r=some (b,dN) from he);rfl
  |none=>simp only[b9,c'] at he;obtain⟨rfl,rfl⟩:=he;rfl
 case makeSlice t l c=>
  split at he
  ·unfold zs at he;split at he
   ·split at he
    ·split at he
     ·exact fin he
     ·cases he
    ·cases he
   ·cases he
  ·cases he
 all_goals cases he
end
end Go.Cre

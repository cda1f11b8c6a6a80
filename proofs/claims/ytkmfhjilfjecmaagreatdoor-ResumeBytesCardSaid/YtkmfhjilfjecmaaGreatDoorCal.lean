/- A part of the proof of ResumeBytes. -/
import Derived.Test.YtkmfhjilfjecmaaGreatDoorCak
set_option linter.unusedVariables false
set_option linter.unusedSimpArgs false
namespace Go.Cre
noncomputable section
open Go.RowKit
def bg.eC {α:Type}:bg α->(Nat->Bool)->bg α
 |.leaf,_=>.leaf
 |.node v l r,p=>.node (if p 0 then v else none) (l.eC fun k=>p (2*k+1)) (r.eC fun k=>p (2*k+2))
theorem bg.Oe{α:Type}(t:bg α):∀(p:Nat->Bool) (n:Nat),(t.eC p).get n=if p n then t.get n else none:=by
 induction t with
 |leaf=>intro p n;simp[bg.eC,bg.Vb]
 |node v l r xY xZ=>
  intro p n;cases n with
  |zero=>simp[bg.eC,bg.G0]
  |succ m=>
   simp only[bg.eC,bg.rq];by_cases h:m % 2=0
   ·rw[aE h,aE h,xY];have:2*(m / 2)+1=m+1:=by omega
    rw[this]
   ·rw[an h,an h,xZ];have:2*(m / 2)+2=m+1:=by omega
    rw[this]
theorem bg.YQ{α:Type}{a:α}{t:bg α}:∀{ek:bg α} {n:Nat} (p:Nat->Bool),bg.put a t n=some ek->∃aoM,bg.put a (t.eC p) n=some aoM:=by
 induction t with
 |leaf=>
  intro ek n p h;exact⟨ek,h⟩
 |node v l r xY xZ=>
  intro ek n p h;cases n with
  |zero=>exact⟨_,rfl⟩
  |succ m=>
   simp only[bg.eC];rw[bg.L4] at h ⊢;by_cases hm:m % 2=0
   ·rw[aE hm] at h ⊢;cases av:bg.put a l (m / 2) with
    |none=>rw[av] at h;cases h
    |some l'=>obtain⟨Lu,e⟩:=xY (fun k=>p (2*k+1)) av;rw[e];exact⟨_,rfl⟩
   ·rw[an hm] at h ⊢;cases aw:bg.put a r (m / 2) with
    |none=>rw[aw] at h;cases h
    |some dx=>obtain⟨auZ,e⟩:=xZ (fun k=>p (2*k+2)) aw;rw[e];exact⟨_,rfl⟩
def bh.only (S:bh)(p:Nat->Bool):bh:=⟨S.T.eC p,S.n,S.ds,S.b5,S.bF,S.cK⟩
theorem bh.put_eq{S aS:bh}{dst:Option Tmp}{v:Value}(he:S.put dst v=some aS):
 aS.n=S.n/\aS.ds=S.ds/\aS.b5=S.b5/\aS.bF=S.bF/\aS.cK=S.cK/\∀t,aS.T.get t=if dst=some t then some v else S.T.get t:=by
 cases dst with
 |none=>
  have he:some S=some aS:=he;injection he with he;subst he
  exact⟨rfl,rfl,rfl,rfl,rfl,fun t=>by simp⟩
 |some d=>
  obtain⟨T,n,h7,b5,bF,cK⟩:=S;have he:Bool.rec (motive:=fun _=>Option bh) none (bh.uE n h7 b5 bF cK (bg.put v T d)) (Nat.ble (Nat.succ d) n)=some aS:=he;cases ap:Nat.ble (Nat.succ d) n with
  |false=>rw[ap] at he;cases he
  |true=>
   rw[ap] at he;have he:bh.uE n h7 b5 bF cK (bg.put v T d)=some aS:=he;cases au:bg.put v T d with
   |none=>rw[au] at he;cases he
   |some eR=>
    rw[au] at he;have he:some (bh.mk eR n h7 b5 bF cK)=some aS:=he;injection he with he;subst he
    refine⟨rfl,rfl,rfl,rfl,rfl,fun t=>?_⟩;show eR.get t=_;rw[bg.get_put au];by_cases h:t=d
    ·subst h;simp
    ·rw[an h,an (fun q=>h (by injection q with q;exact q.symm))]
theorem bh.ane{S aS:bh}{dst:Option Tmp}{v:Value}(p:Nat->Bool)(he:S.put dst v=some aS):∃pr,(S.only p).put dst v=some pr:=by
 cases dst with
 |none=>exact⟨_,rfl⟩
 |some d=>
  obtain⟨T,n,h7,b5,bF,cK⟩:=S;have he:Bool.rec (motive:=fun _=>Option bh) none (bh.uE n h7 b5 bF cK (bg.put v T d)) (Nat.ble (Nat.succ d) n)=some aS:=he;show ∃pr,Bool.rec (motive:=fun _=>Option bh) none (bh.uE n h7 b5 bF cK (bg.put v (T.eC p) d)) (Nat.ble (Nat.succ d) n)=some pr;cases ap:Nat.ble (Nat.succ d) n with
  |false=>rw[ap] at he;cases he
  |true=>
   rw[ap] at he;have he:bh.uE n h7 b5 bF cK (bg.put v T d)=some aS:=he;cases au:bg.put v T d with
   |none=>rw[au] at he;cases he
   |some eR=>
    obtain⟨aqM,e⟩:=bg.YQ p au;rw[e];exact⟨_,rfl⟩
section
variable {P:Program}{H:aA}{T eR:bg Value}{ops:List Oper}{o:Oper}
theorem XB{t:Tmp}(h:Operand.tmp t∈o.op.operands):t∈looks ops o:=by
 unfold looks;exact nX _ (List.mem_filterMap.2 ⟨.tmp t,by simpa using h,rfl⟩)
theorem LR(h:∀t∈looks ops o,eR.get t=T.get t):∀x∈o.op.operands,bj eR H x=bj T H x:=fun x U=>by
 cases x with
 |tmp t=>exact h t (XB U)
 |const c=>rfl
 |global g=>rfl
 |func f=>rfl
theorem amh(h:∀t∈looks ops o,eR.get t=T.get t):∀x∈o.op.operands,qE eR x=qE T x:=fun x U=>by
 cases x with
 |tmp t=>exact h t (XB U)
 |const c=>rfl
 |global g=>rfl
 |func f=>rfl
theorem tP(h:∀t∈looks ops o,eR.get t=T.get t):fD ops eR o=fD ops T o:=by
 unfold fD;cases aq:o.guard with
 |none=>rfl
 |some q=>
  obtain⟨j,want⟩:=q;show vF ops eR (j,want)=vF ops T (j,want);unfold vF;simp only
  cases aP:nth ops j with
  |none=>rfl
  |some p=>
   simp only
   cases aV:p.dst with
   |none=>rfl
   |some d=>
    simp only
    rw[h d (by unfold looks;rw[aq];simp only[aP,aV];exact hT _ (by simp))]
theorem amn:∀{l:List (Nat×Operand)},(∀x∈l.map (·.2),qE eR x=qE T x)->s8 eR l=s8 T l:=by
 intro l;induction l with
 |nil=>intro _;rfl
 |cons x l aI=>
  intro h;obtain⟨i,x⟩:=x;simp only[s8];rw[h x (by simp),aI fun y ai=>h y (by simp at ai ⊢;exact .inr ai)]
theorem M'(h:∀t∈looks ops o,eR.get t=T.get t):nE P eR o.op=nE P T o.op:=by
 have h:=amh h;cases ar:o.op<;>rw[ar] at h<;>simp only[Op.operands] at h<;>simp only[nE]
 case box e x=>rw[h x (by simp)]
 case buildSlice t n ew=>rw[amn fun x U=>h x (by simpa using U)]
 case makeSlice t l c=>rw[h l (by simp),h c (by simp)]
 case makeMap t r=>cases r<;>rfl
end
theorem abq{f:Value->Value->Bool}(aD:∀x y,f x y=true->x=y):∀{l m:List Value},vb f l m=true->l=m:=by
 intro l;induction l with
 |nil=>intro m h;cases m with
  |nil=>rfl
  |cons=>cases h
 |cons x l aI=>intro m h;cases m with
  |nil=>cases h
  |cons y m=>
   simp only[vb,fS] at h;rw[aD x y h.1,aI h.2]
theorem S6{a b:Option Addr}(h:addrEq a b=true):a=b:=by
 unfold addrEq at h;split at h
 ·rfl
 ·simp only[fS] at h;rw[eO h.1,eO h.2]
 ·rfl
 ·cases h
theorem apG:∀{n:Nat} {a b:Value},j3 n a b=true->a=b:=by
 intro n;induction n with
 |zero=>intro a b h;cases h
 |succ n aI=>
  intro a b h;have arr:∀{x y:Array Value},vb (j3 n) x.toList y.toList=true->x=y:=fun q=>tf (abq (fun _ _ z=>aI z) q);unfold j3 at h;split at h
  ·rename_i a b;cases a<;>cases b<;>first|rfl|cases h
  ·simp only[fS] at h;rw[Xp h.1];have:=h.2;rw[EC] at this;rw[eq_of_beq this]
  ·rename_i a b;have:=lV h;obtain⟨⟨x⟩⟩:=a;obtain⟨⟨y⟩⟩:=b;simp at this;rw[this]
  ·rw[S6 h]
  ·simp only[fS] at h;rw[S6 h.1.1,eO h.1.2,eO h.2]
  ·rename_i a b;cases a<;>cases b<;>simp only[XS] at h<;>first|rfl|cases h|(rw[eO h])
  ·rfl
  ·rfl
  ·simp only[fS] at h;rw[eO h.1,aI h.2]
  ·rw[arr h]
  ·rw[arr h]
  ·simp only[fS] at h;rename_i f a b g c d;have:f=g:=by
    have:=h.1.1;unfold U5 at this;split at this
    ·rw[eO this]
    ·cases this
   rw[this,arr h.1.2,arr h.2]
  ·cases h
section
variable {P:Program}{B:Nat->Prop}{w0 w:World}{μ:bY}{H H':aA}
theorem b9.amN(h:b9 P B w0 μ H w){a:Nat}{b:fg}(aP:H.new b=some (a,H'))(ar:kg (some b)=false):b9 P B w0 μ H' w:=by
 obtain⟨rfl,aL,bk,cG,eL,cu⟩:=aA.pM aP;have ev:∀x L,μ x=some L->H'.mem.get x=H.mem.get x:=fun x L U=>by
  have:=h.lt x L U;rw[cu,an (by omega)]
 refine⟨h.below,h.n3,?_,?_,?_,?_,?_,?_,?_,?_,?_,?_⟩
 ·intro x L U;obtain⟨b',o',aa,ae,aF⟩:=h.fT x L U;exact⟨b',o',by rw[ev x L U];exact aa,ae,aF⟩
 ·intro x y eN gv eZ U ai oj;rcases h.sep x y eN gv eZ U ai oj with d|d|⟨f,l,⟨c,e,z,s,q⟩,⟨cd,bz,hS,c4,du⟩,av,m1,m2⟩
  ·exact .inl (by rw[ev x eN U];exact d)
  ·exact .inr (.inl (by rw[ev y gv ai];exact d))
  ·exact .inr (.inr ⟨f,l,⟨c,e,z,s,by rw[ev x eN U];exact q⟩,⟨cd,bz,hS,c4,by rw[ev y gv ai];exact du⟩,by rw[bk];exact av,m1,m2⟩)
 ·intro x L U;have:=h.lt x L U;omega
 ·intro x L U aq;exact h.own x L U (by omega)
 ·intro x L U aq dM;exact h.new x L U (by omega) (by rw[ev x L U] at dM;exact dM)
 ·intro g c e o f z s aq hm;have fE:g≠H.ak:=by have:=h.kO;omega
  rw[cu,an fE] at hm;exact h.tO g c e o f z s (by omega) hm
 ·have:=h.kO;omega
 ·intro x c e f z s hm;rw[cu] at hm;split at hm
  ·injection hm with hm;rw[hm] at ar;simp[kg] at ar
  ·rw[cG];exact h.rm x c e f z s hm
 ·intro f l x av U;rw[bk] at av;obtain⟨a,d⟩:=h.lb f l x av U;refine⟨by omega,?_⟩;rw[cu,an (by omega)];exact d
 ·intro f l av;rw[bk] at av;refine(h.vA f l av).imp_of_mem ?_;intro x y U ai eZ c e f1 z s cd bz cP hS c4 q du;have e5:=(h.lb f l x av U).1;have hd:=(h.lb f l y av ai).1;rw[cu,an (by omega)] at q du;exact eZ c e _ z s cd bz cP hS c4 q du
theorem b9.fill(h:b9 P B w0 μ H w){a:Nat}{b:fg}{o:Obj}{L:Loc}(hm:μ a=none)(cV:a<H.ak)(aq:H.bW<=a)(kc:H.mem.get a=some b)(aw:L.r=w.heap.size)(ap:km P μ L b o):
 b9 P B w0 (μ.put a L) H (w.alloc o)/\Ext μ (μ.put a L):=by
 have hN:Ext μ (μ.put a L):=fun id bN U=>by
  by_cases e:id=a
  ·subst e;rw[hm] at U;cases U
  ·rw[bY.uG _ _ e];exact U
 have ev:∀x bN,(μ.put a L) x=some bN->x≠a->μ x=some bN:=fun x bN q b=>by rwa [bY.uG _ _ b] at q
 have PA:∀x bN,μ x=some bN->bN.r<w.heap.size:=fun x bN U=>by
  obtain⟨b',o',_,ar,_⟩:=h.fT x bN U;rcases ji bN.r w.heap.size with dZ|dZ
  ·exact dZ
  ·rw[tg dZ] at ar;cases ar
 refine⟨⟨h.below.alloc h.n3 o,?_,?_,?_,?_,?_,?_,?_,h.kO,h.rm,h.lb,h.vA⟩,hN⟩
 ·intro k aO;have:=h.n3 k aO;show k<(w.heap.push o).size;rw[Sl];omega
 ·intro x bN U;by_cases di:x=a
  ·subst di;rw[bY.kW] at U;injection U with U;subst U
   exact⟨b,o,kc,by rw[Eb,aw];simp,ap.mono hN⟩
  ·have e5:=ev x bN U di;obtain⟨b',o',aa,ae,aF⟩:=h.fT x bN e5;exact⟨b',o',aa,by rw[Eb,an (by have:=PA x bN e5;omega)];exact ae,aF.mono hN⟩
 ·intro x y eN gv eZ U ai oj;by_cases di:x=a
  ·subst di;rw[bY.kW] at U;injection U with U;subst U
   have:=PA y gv (ev y gv ai (Ne.symm eZ));omega
  ·by_cases kT:y=a
   ·subst kT;rw[bY.kW] at ai;injection ai with ai;subst ai
    have:=PA x eN (ev x eN U di);omega
   ·exact h.sep x y eN gv eZ (ev x eN U di) (ev y gv ai kT) oj
 ·intro x bN U;by_cases di:x=a
  ·omega
  ·exact h.lt x bN (ev x bN U di)
 ·intro x bN U Ht;have di:x≠a:=by omega
  exact h.own x bN (ev x bN U di) Ht
 ·intro x bN U Ht dM;by_cases di:x=a
  ·subst di;rw[bY.kW] at U;injection U with U;subst U
   rw[aw];exact fun q=>FL _ (h.n3 _ q)
  ·exact h.new x bN (ev x bN U di) Ht dM
 ·intro g c e o f z s Ht PB;obtain⟨bN,bS⟩:=h.tO g c e o f z s Ht PB;exact⟨bN,hN _ _ bS⟩
theorem Rp{cells cells':List Value}{elem:TypeId}(aC:b0 μ cells cells')(r:Nat):km P μ ⟨r,cells.length,P.cellsOf elem⟩ (.row cells elem false 0 0 false) (.cells cells'.toArray elem):=
 ⟨rfl,by simp[aC.1],rfl,cW _,fun _=>rfl,fun i v v' a b=>aC.2 i v v' a (by simpa using b),fun off _ aa ae=>by simp at ae,fun _=>.inl rfl⟩
def iR.ok:iR->Bool
 |.Cw _ c=>decide (c<cZ)
 |_=>true
theorem iR.rel{er:iR}(h:er.ok=true){a:Nat}{L:Loc}(hm:μ a=some L):bB μ (er.at a) (er.at L.r):=by
 cases er with
 |ptr=>exact .ptr a 0 L hm
 |Cw l c=>exact .nU a 0 l c L hm (lV h)
 |map=>exact .map a L hm
def MN(P:Program)(μ:bY)(w:World)(s:Sem Value)(b:fg)(er:iR):Prop:=
 ∃pO N sz,s.run P w=.ok (er.at w.heap.size) (w.alloc pO)/\km P μ ⟨w.heap.size,N,sz⟩ b pO/\kg (some b)=false/\er.ok=true
theorem Tb{elem:TypeId}{v v':Value}{b:fg}{er:iR}(ay:bB μ v v')(he:AH elem v=some (b,er))(w:World):MN P μ w (Instr.box elem v') b er:=by
 unfold AH at he;cases ar:v.cells.toList.all eM with
 |false=>rw[ar] at he;cases he
 |true=>
  rw[ar,b7] at he;simp only[cp,dB] at he;obtain⟨rfl,rfl⟩:=he;refine⟨_,_,_,?_,Rp ay.cells _,rfl,rfl⟩;simp[Instr.box,newVar,newRow,newObj,Sem.run,iR.at]
theorem abx{t:TypeId}{l l' c cd:Value}{b:fg}{er:iR}(av:bB μ l l')(aC:bB μ c cd)(he:F2 P t l c=some (b,er))(w:World):MN P μ w (Instr.makeSlice t l' cd) b er:=by
 unfold F2 at he;cases l with
 |int bl l=>
  cases c with
  |int bp c=>
   obtain rfl:=av.qx;obtain rfl:=aC.qx;cases hu:P.underlying t with
   |none=>rw[hu] at he;simp at he
   |some d=>
    rw[hu] at he;cases d with
    |slice elem=>
     simp only at he;cases bE:fy P elem with
     |none=>rw[bE] at he;simp at he
     |some z=>
      rw[bE] at he;cases ia:vh P elem with
      |none=>rw[ia] at he;simp at he
      |some fO=>
       rw[ia] at he;cases hs:ef P elem with
       |none=>rw[hs] at he;simp at he
       |some sz=>
        rw[hs] at he;simp only at he;cases tY:qw c 1000000 with
        |none=>rw[tY] at he;simp at he
        |some aQ=>
         rw[tY] at he;cases c6:qw l 1000000 with
         |none=>rw[c6] at he;simp at he
         |some BX=>
          rw[c6] at he;simp only at he;cases xB:(Nat.ble BX aQ&&Nat.ble fO 1000000&&Nat.beq z.cells.toList.length sz&&z.cells.toList.all eM&&plain z) with
          |false=>rw[xB] at he;simp at he
          |true=>
           rw[xB,b7] at he;simp only[fS] at xB;obtain⟨⟨⟨⟨bb,a7⟩,b8⟩,fl⟩,jb⟩:=xB;have bb:=hV bb;have a7:=hV a7;have b8:=eO b8;obtain⟨rfl,jv⟩:=EE tY;obtain⟨rfl,HA⟩:=EE c6;simp only[cp,dB] at he;obtain⟨rfl,rfl⟩:=he;have wa:b0 μ z.cells.toList z.cells.toList:=(qG jb).cells;have Bs:b0 μ (gG z.cells.toList aQ) (gG z.cells.toList aQ):=b0.I3 fun v ay=>by
               exact ML (p:=fun v=>bB μ v v) ay (fun u hu=>by
                obtain⟨i,ao⟩:=kp.1 hu;exact wa.2 i u u ao ao)
           refine⟨_,_,_,?_,Rp Bs _,rfl,y4 (by have:(1000000:Nat)<cZ:=by decide
                                              omega)⟩
           obtain⟨i,ao,rfl⟩:=Nk ia
           have xV:i.zero=some z:=by simpa[fy,ao] using bE
           have sU:i.size=sz:=by simpa[ef,ao] using hs
           have hmul:i.bytes*aQ<=1000000*1000000:=SR a7 jv;have lk:=MM z.cells.toList aQ;have iB:=run_make (P:=P) w t elem i z hu ao xV bl bp (BX:Int) (aQ:Int) (by omega) (by omega) (by
               have:(i.bytes:Int)*(aQ:Int)=((i.bytes*aQ:Nat):Int):=by simp
               rw[this];omega) (by omega)
           rw[iB];simp only[cx,iR.at];congr 3
           rw[<-lk];simp[madeCells,sU,<-b8]
    |_=>simp at he
  |_=>simp at he
 |_=>simp at he
theorem abv{t:TypeId}{len:Nat}{parts mI:List (Nat×Value)}{b:fg}{er:iR}(au:wO μ parts mI)(he:F1 P t len parts=some (b,er))(w:World):MN P μ w (Instr.buildSlice t len mI.toArray) b er:=by
 unfold F1 at he;cases hu:P.underlying t with
 |none=>rw[hu] at he;simp at he
 |some d=>
  rw[hu] at he;cases d with
  |slice elem=>
   simp only at he;cases hs:ef P elem with
   |none=>rw[hs] at he;simp at he
   |some sz=>
    rw[hs] at he;cases bE:fy P elem with
    |none=>rw[bE] at he;simp at he
    |some z=>
     rw[bE] at he;simp only at he;cases aC:(Nat.ble len 100000&&Nat.ble (len*sz) 100000&&plain z&&Nat.beq z.cells.toList.length sz) with
     |false=>rw[aC] at he;simp at he
     |true=>
      rw[aC,b7] at he;simp only[fS] at aC;obtain⟨⟨⟨np,bb⟩,a7⟩,b8⟩:=aC;have np:=hV np;have bb:=hV bb;have b8:=eO b8;cases aD:nK (fun i=>some (i*sz,sz)) (gG z.cells.toList len) parts with
      |none=>rw[aD] at he;simp at he
      |some cells=>
       rw[aD] at he;simp only at he;cases ar:cells.all eM with
       |false=>rw[ar] at he;simp at he
       |true=>
        rw[ar,b7] at he;simp only[cp,dB] at he;obtain⟨rfl,rfl⟩:=he;have wa:b0 μ z.cells.toList z.cells.toList:=(qG a7).cells;have Bs:b0 μ (gG z.cells.toList len) (gG z.cells.toList len):=b0.I3 fun v ay=>
         ML (p:=fun v=>bB μ v v) ay (fun u hu=>by
           obtain⟨i,ao⟩:=kp.1 hu;exact wa.2 i u u ao ao)
        obtain⟨dx,a,b⟩:=Kv au Bs aD
        refine⟨_,_,_,?_,Rp b _,rfl,y4 (by have:(100000:Nat)<cZ:=by decide
                                          omega)⟩
        have lk:=MM z.cells.toList len;have ake:z.cells.size=sz:=by simpa using b8
        have OX:¬(16777216<len*sz):=by omega
        rw[b8] at lk;simp only[aaQ] at lk;by_cases bw:len*sz=0
        ·have lO:gG z.cells.toList len=[]:=q5.1 (by rw[Sa,b8];exact bw)
         rw[lO] at a;have bV:Instr.fill (fun i=>some (i*sz,sz)) (Array.map (fun _=>(default:Value)) (Array.range 0)) mI=some dx.toArray:=by
          have iL:Array.map (fun _:Nat=>(default:Value)) (Array.range 0)=#[]:=by simp
          rw[iL];exact a
         simp[Instr.buildSlice,e1 hu,kG hs,bw,bV,newRow,newObj,Sem.run,iR.at]
        ·have bV:Instr.fill (fun i=>some (i*sz,sz)) ((Array.range (len*sz)).map fun i=>z.cells[i % z.cells.size]!) mI=some dx.toArray:=by rw[lk];exact a
         simp[Instr.buildSlice,e1 hu,kG hs,OX,bw,yu bE,bV,newRow,newObj,Sem.run,iR.at]
  |_=>simp at he
theorem LQ{T:bg Value}{n:Nat}{tmps:Array Value}(aB:lD μ T n tmps){x:Operand}{v:Value}(he:qE T x=some v):bB μ v (dz tmps x):=by
 cases x with
 |tmp t=>exact aB.2 t v he
 |const c=>
  have he:(bif plain c then some c else none)=some v:=he;cases au:plain c with
  |false=>rw[au] at he;simp at he
  |true=>rw[au] at he;simp at he;subst he;exact qG au
 |global g=>cases he
 |func f=>
  have he:some (Value.func (.func f) #[] #[])=some v:=he;injection he with he;subst he
  exact .func _ _ _ _ _ rfl rfl rfl (fun i v v' q=>by simp at q) (fun i v v' q=>by simp at q)
theorem amp{T:bg Value}{n:Nat}{tmps:Array Value}(aB:lD μ T n tmps):∀{l:List (Nat×Operand)} {ew:List (Nat×Value)},s8 T l=some ew->wO μ ew (l.map fun(i,x)=>(i,dz tmps x)):=by
 intro l;induction l with
 |nil=>intro ew h;simp[s8] at h;subst h;exact⟨rfl,fun i p hO q=>by simp at q⟩
 |cons x l aI=>
  intro ew h;obtain⟨i,x⟩:=x;simp only[s8] at h;cases aa:qE T x with
  |none=>rw[aa] at h;cases h
  |some v=>
   rw[aa] at h;cases ae:s8 T l with
   |none=>rw[ae] at h;cases h
   |some r=>
    rw[ae] at h;injection h with h;subst h
    have:=aI ae;refine⟨by simp[this.1],fun j p hO q du=>?_⟩;cases j with
    |zero=>simp at q du;subst q;subst du;exact⟨rfl,LQ aB aa⟩
    |succ j=>exact this.2 j p hO (by simpa using q) (by simpa using du)
theorem Xx{t:TypeId}{r:Operand}{b:fg}{er:iR}(he:Im P t r=some (b,er)):b=.dead/\er=.map/\r=.const (.int .i64 (.ofNat 0))/\∃key el,P.underlying t=some (.map key el):=by
 unfold Im at he;split at he
 ·cases hu:P.underlying t with
  |none=>rw[hu] at he;cases he
  |some d=>
   rw[hu] at he;cases d with
   |map a c=>
    simp only[cp,dB] at he;exact⟨he.1.symm,he.2.symm,rfl,a,c,rfl⟩
   |_=>cases he
 ·cases he
theorem aby{T:bg Value}{n:Nat}{tmps:Array Value}{o:Oper}{b:fg}{er:iR}(aB:lD μ T n tmps)(he:nE P T o.op=some (b,er))(w:World):
 ∃pO N sz,(execOp (dz tmps) o).run P w=.ok (.value (er.at w.heap.size)) (w.alloc pO)/\km P μ ⟨w.heap.size,N,sz⟩ b pO/\kg (some b)=false/\er.ok=true:=by
 cases ar:o.op<;>rw[ar] at he<;>simp only[nE] at he
 case alloc elem=>
  cases bE:fy P elem with
  |none=>rw[bE] at he;cases he
  |some z=>
   rw[bE] at he;cases au:plain z with
   |false=>simp only[au] at he;cases he
   |true=>
    simp only[au,b7] at he;obtain⟨pO,N,sz,bm,a2,a3,a4⟩:=Tb (P:=P) (qG (μ:=μ) au) he w;refine⟨pO,N,sz,?_,a2,a3,a4⟩;have:(Instr.alloc elem true (.tuple #[])).run P w=.ok (er.at w.heap.size) (w.alloc pO):=by simpa[Instr.alloc,Instr.box,yu bE] using bm
    simp[execOp,ar,this]
 case box elem x=>
  cases U:qE T x with
  |none=>rw[U] at he;cases he
  |some v=>
   rw[U] at he;obtain⟨pO,N,sz,bm,a2,a3,a4⟩:=Tb (P:=P) (LQ aB U) he w;exact⟨pO,N,sz,by simp[execOp,ar,bm],a2,a3,a4⟩
 case buildSlice t len parts=>
  cases U:s8 T parts.toList with
  |none=>rw[U] at he;cases he
  |some ew=>
   rw[U] at he;obtain⟨pO,N,sz,bm,a2,a3,a4⟩:=abv (P:=P) (amp aB U) he w;have aL:(parts.toList.map fun(i,x)=>(i,dz tmps x)).toArray=parts.map fun(i,x)=>(i,dz tmps x):=by apply tf;simp
   rw[aL] at bm;exact⟨pO,N,sz,by simp[execOp,ar,bm],a2,a3,a4⟩
 case makeMap t r=>
  cases r with
  |some r=>
   obtain⟨rfl,rfl,rfl,key,el,hu⟩:=Xx (show Im P t r=some (b,er) from he);exact⟨.map #[] 0,0,0,by simp[execOp,ar,Instr.makeMap,newObj,Sem.run,iR.at,e1 hu,dz,asInt,asIntOf],trivial,rfl,rfl⟩
  |none=>
   simp only[cp,dB] at he;obtain⟨rfl,rfl⟩:=he;exact⟨.map #[] 0,0,0,by simp[execOp,ar,Instr.makeMap,newObj,Sem.run,iR.at],Ap.nil _,rfl,rfl⟩
 case makeSlice t l c=>
  cases aa:qE T l with
  |none=>rw[aa] at he;cases he
  |some lv=>
   cases ae:qE T c with
   |none=>rw[aa,ae] at he;cases he
   |some gJ=>
    rw[aa,ae] at he;obtain⟨pO,N,sz,bm,a2,a3,a4⟩:=abx (P:=P) (LQ aB aa) (LQ aB ae) he w;exact⟨pO,N,sz,by simp[execOp,ar,bm],a2,a3,a4⟩
 all_goals cases he
end
end
end Go.Cre
namespace Go.Cre
noncomputable section
open Go.RowKit
theorem z'(a b i:Nat):Nat.testBit (Nat.lor a b) i=(a.testBit i||b.testBit i):=Nat.testBit_or a b i
theorem Mp(a b i:Nat):Nat.testBit (Nat.land a b) i=(a.testBit i&&b.testBit i):=Nat.testBit_and a b i
theorem Mq(i j:Nat):Nat.testBit (Nat.pow 2 i) j=decide (i=j):=Nat.testBit_two_pow (n:=i) (m:=j)
theorem lx{C i j:Nat}:Nat.testBit (Nat.lor C (Nat.pow 2 i)) j=true↔Nat.testBit C j=true\/i=j:=by
 rw[z',Mq];simp
theorem RL{a b:Nat}(h:sub a b=true){i:Nat}(ao:a.testBit i=true):b.testBit i=true:=by
 have h:=eO h;rw[<-h,Mp] at ao;simp at ao;exact ao.2
theorem UF{l:List Edge}{i:Nat}:(DH l).testBit i=true↔∃e∈l,Region.binds .any e=true/\e.on=i:=by
 induction l with
 |nil=>simp[DH]
 |cons e l aI=>
  simp only[DH];cases ap:Region.binds .any e with
  |false=>simp[aI,ap]
  |true=>rw[b7,z',Mq];simp[aI,ap]
theorem ak3{l:List Nat}{i:Nat}:(BZ l).testBit i=true↔i∈l:=by
 induction l with
 |nil=>simp[BZ]
 |cons e l aI=>
  simp only[BZ];rw[z',Mq,yw,aI,e3,l6];exact⟨fun q=>q.imp Eq.symm id,fun q=>q.imp Eq.symm id⟩
theorem akw{C:Nat}:∀{n:Nat},Lm C n=true->∀i,i<n->C.testBit i=true:=by
 intro n;induction n with
 |zero=>intro _ i ao;omega
 |succ n aI=>
  intro h i ao;simp only[Lm,fS] at h;by_cases e:i=n
  ·subst e;exact h.1
  ·exact aI h.2 i (by omega)
theorem alU{C i:Nat}:∀{l:List Oper} {k:Nat},only C i l k=true->∀j o,l[j]?=some o->C.testBit (k+j)=true\/k+j=i\/sub (Oper.fM o) C=false:=by
 intro l;induction l with
 |nil=>intro k _ j o h;simp at h
 |cons a l aI=>
  intro k h j o ar;simp only[only,fS,yw,qU] at h;cases j with
  |zero=>
   simp at ar;subst ar;rcases h.1 with(q|q)|q
   ·exact .inl q
   ·exact .inr (.inl (eO q))
   ·exact .inr (.inr q)
  |succ j=>
   have:=aI h.2 j o (by simpa using ar);have e:k+1+j=k+(j+1):=by omega
   rw[e] at this;exact this
theorem abt{bK cj C:Nat}:∀{l:List Nat},J2 bK cj C l=true->∀i∈l,C.testBit i=true/\cj.testBit i=false:=by
 intro l;induction l with
 |nil=>intro _ i ao;simp at ao
 |cons a l aI=>
  intro h i ao;simp only[J2,fS,qU] at h;rcases e3.1 ao with rfl|ao
  ·exact h.1
  ·exact aI h.2 i ao
theorem ada{ops:List Oper}{D:Nat->Bool}(aV:∀i o j,D i=true->ops[i]?=some o->(Oper.fM o).testBit j=true->D j=true):∀{n K:Nat},(∀i,K.testBit i=true->D i=true)->∀i,(vm ops n K).testBit i=true->D i=true:=by
 intro n;induction n with
 |zero=>intro K h i ao;exact h i ao
 |succ n aI=>
  intro K h i ao;simp only[vm] at ao;refine aI (fun j a'=>?_) i ao;cases ap:K.testBit n with
  |false=>rw[ap] at a';exact h j a'
  |true=>
   rw[ap,b7] at a';rw[kE] at a';cases ar:ops[n]? with
   |none=>rw[ar] at a';exact h j a'
   |some o=>
    rw[ar] at a';simp only at a';rw[z'] at a';simp only[yw] at a';rcases a' with q|q
    ·exact h j q
    ·exact aV n o j (h n ap) ar q
theorem abw{l:List Oper}:∀{k j:Nat} {o:Oper},l[j]?=some o->zz o.op=true->(yM l k).testBit (k+j)=true:=by
 induction l with
 |nil=>intro k j o h;simp at h
 |cons a l aI=>
  intro k j o ar a1;simp only[yM];rw[z'];cases j with
  |zero=>simp at ar;subst ar;rw[a1,b7,Mq];simp
  |succ j=>
   have:=aI (k:=k+1) (by simpa using ar) a1;have e:k+1+j=k+(j+1):=by omega
   rw[e] at this;rw[this];simp
structure wQ (ops:List Oper) (bK:Nat):Prop where
 dst:∀(i j:Nat) a b d,ops[i]?=some a->ops[j]?=some b->i≠j->a.dst=some d->b.dst≠some d
 look:∀(i j:Nat) a b d,ops[i]?=some a->ops[j]?=some b->a.dst=some d->d∈looks ops b->(Oper.fM b).testBit i=true\/(bK.testBit i=true/\(i=j\/(Oper.fM a).testBit j=true))
 down:∀(i:Nat) a j,ops[i]?=some a->(Oper.fM a).testBit j=true->j<i
 bR:∀(i:Nat) a,ops[i]?=some a->bK.testBit i=false->EF a.op=false
theorem amm{ops:List Oper}{bK i:Nat}{a:Oper}:∀{l:List Oper} {k:Nat},LS ops bK i a l k=true->∀j b,l[j]?=some b->EY ops bK i (k+j) a b=true:=by
 intro l;induction l with
 |nil=>intro k _ j b h;simp at h
 |cons c l aI=>
  intro k h j b ap;simp only[LS,fS] at h;cases j with
  |zero=>simp at ap;subst ap;exact h.1
  |succ j=>
   have:=aI h.2 j b (by simpa using ap);have e:k+1+j=k+(j+1):=by omega
   rw[e] at this;exact this
theorem Q9{ops:List Oper}{bK:Nat}:∀{l:List Oper} {k:Nat},IT ops bK l k=true->∀i a,l[i]?=some a->
 (∀j b,ops[j]?=some b->EY ops bK (k+i) j a b=true)/\(Oper.fM a)<2 ^ (k+i)/\(bK.testBit (k+i)=true\/EF a.op=false):=by
 intro l;induction l with
 |nil=>intro k _ i a h;simp at h
 |cons c l aI=>
  intro k h i a a1;simp only[IT,fS,yw,qU] at h;cases i with
  |zero=>
   simp at a1;subst a1;refine⟨fun j b ap=>?_,hV h.1.1.2,h.1.2⟩;have:=amm h.1.1.1 j b ap;simpa using this
  |succ i=>
   have:=aI h.2 i a (by simpa using a1);have e:k+1+i=k+(i+1):=by omega
   rw[e] at this;exact this
theorem aoj{ops:List Oper}{bK:Nat}(h:IT ops bK ops 0=true):wQ ops bK:=by
 have au:∀(i j:Nat) a b,ops[i]?=some a->ops[j]?=some b->EY ops bK i j a b=true:=fun i j a b a1 ap=>by
  have:=(Q9 h i a a1).1 j b ap;simpa using this
 refine⟨fun i j a b d a1 ap Pp aV xD=>?_,fun i j a b d a1 ap aV av=>?_,fun i a j a1 a'=>?_,fun i a a1 aC=>?_⟩
 ·have:=au i j a b a1 ap;simp only[EY,fS,yw,qU] at this;rcases this.1 with q|q
  ·exact Pp (eO q)
  ·simp[Zf,aV,xD] at q
 ·have:=au i j a b a1 ap;simp only[EY,fS,yw,qU] at this;rcases this.2 with(q|q)|q
  ·exfalso;simp only[QF,aV] at q;rw[List.any_eq_false] at q;exact q d av (by simp)
  ·exact .inl q
  ·exact .inr ⟨q.1,q.2.imp (fun x=>eO x) id⟩
 ·have ae:=(Q9 h i a a1).2.1;rw[lC] at ae;rcases ji j i with q|q
  ·exact q
  ·have aF:(Oper.fM a)<2 ^ j:=yD ae (aa' (by omega) q);rw[Nat.testBit_lt_two_pow aF] at a';cases a'
 ·have ae:=(Q9 h i a a1).2.2;rw[lC] at ae;rcases ae with q|q
  ·rw[q] at aC;cases aC
  ·exact q
theorem Tc{P:Program}{T:bg Value}{op:Op}{b:fg}{er:iR}(he:nE P T op=some (b,er)):kg (some b)=false:=by
 have box:∀{elem v},AH elem v=some (b,er)->kg (some b)=false:=fun{elem v} q=>by
  unfold AH at q;cases ar:v.cells.toList.all eM with
  |false=>rw[ar] at q;cases q
  |true=>rw[ar,b7] at q;simp only[cp,dB] at q;obtain⟨rfl,rfl⟩:=q;rfl
 have fin:∀{c:Bool} {cells:List Value} {elem:TypeId} {k:iR},(bif c then some (fg.row cells elem false 0 0 false,k) else none)=some (b,er)->kg (some b)=false:=fun{c cells elem k} q=>by
  cases c with
  |false=>cases q
  |true=>simp only[b7,cp,dB] at q;obtain⟨rfl,rfl⟩:=q;rfl
 cases op<;>simp only[nE] at he
 case alloc elem=>
  split at he
  ·rename_i z _;cases au:plain z with
   |false=>rw[au] at he;cases he
   |true=>rw[au,b7] at he;exact box he
  ·cases he
 case box elem x=>
  split at he
  ·exact box he
  ·cases he
 case buildSlice t len ew=>
  split at he
  ·unfold F1 at he;split at he
   ·split at he
    ·rename_i sz z _ _;cases aC:(Nat.ble len 100000&&Nat.ble (len*sz) 100000&&plain z&&Nat.beq z.cells.toList.length sz) with
     |false=>rw[aC] at he;cases he
     |true=>
      rw[aC,b7] at he;split at he
      ·exact fin he
      ·cases he
    ·cases he
   ·cases he
  ·cases he
 case makeMap t r=>
  cases r with
  |some r=>obtain⟨rfl,rfl,_⟩:=Xx (show Im P t r=some (b,er) from he);rfl
  |none=>simp only[cp,dB] at he;obtain⟨rfl,rfl⟩:=he;rfl
 case makeSlice t l c=>
  split at he
  ·unfold F2 at he;split at he
   ·split at he
    ·split at he
     ·exact fin he
     ·cases he
    ·cases he
   ·cases he
  ·cases he
 all_goals cases he
end
end Go.Cre

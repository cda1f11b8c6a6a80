/- A part of the proof of ResumeBack. -/
import Derived.Test.YtiemfjdacfioeaaGreatDoorCaj
set_option linter.unusedVariables false
set_option linter.unusedSimpArgs false
namespace Go.Cre
noncomputable section
open Go.RowKit
def bg.eF {α:Type}:bg α->(Nat->Bool)->bg α
 |.leaf,_=>.leaf
 |.node v l r,p=>.node (if p 0 then v else none) (l.eF fun k=>p (2*k+1)) (r.eF fun k=>p (2*k+2))
theorem bg.NS{α:Type}(t:bg α):∀(p:Nat->Bool) (n:Nat),(t.eF p).get n=if p n then t.get n else none:=by
 induction t with
 |leaf=>intro p n;simp[bg.eF,bg.UK]
 |node v l r xK xL=>
  intro p n;cases n with
  |zero=>simp[bg.eF,bg.GJ]
  |succ m=>
   simp only[bg.eF,bg.ra];by_cases h:m % 2=0
   ·rw[aE h,aE h,xK];have:2*(m / 2)+1=m+1:=by omega
    rw[this]
   ·rw[ap h,ap h,xL];have:2*(m / 2)+2=m+1:=by omega
    rw[this]
theorem bg.Yo{α:Type}{a:α}{t:bg α}:∀{fo:bg α} {n:Nat} (p:Nat->Bool),bg.put a t n=some fo->∃an8,bg.put a (t.eF p) n=some an8:=by
 induction t with
 |leaf=>
  intro fo n p h;exact⟨fo,h⟩
 |node v l r xK xL=>
  intro fo n p h;cases n with
  |zero=>exact⟨_,rfl⟩
  |succ m=>
   simp only[bg.eF];rw[bg.LJ] at h ⊢;by_cases hm:m % 2=0
   ·rw[aE hm] at h ⊢;cases av:bg.put a l (m / 2) with
    |none=>rw[av] at h;cases h
    |some l'=>obtain⟨La,e⟩:=xK (fun k=>p (2*k+1)) av;rw[e];exact⟨_,rfl⟩
   ·rw[ap hm] at h ⊢;cases ay:bg.put a r (m / 2) with
    |none=>rw[ay] at h;cases h
    |some dw=>obtain⟨at5,e⟩:=xL (fun k=>p (2*k+2)) ay;rw[e];exact⟨_,rfl⟩
def bi.only (S:bi)(p:Nat->Bool):bi:=⟨S.T.eF p,S.n,S.ds,S.b2,S.bJ,S.cJ⟩
theorem bi.put_eq{S aS:bi}{dst:Option Tmp}{v:Value}(he:S.put dst v=some aS):
 aS.n=S.n/\aS.ds=S.ds/\aS.b2=S.b2/\aS.bJ=S.bJ/\aS.cJ=S.cJ/\∀t,aS.T.get t=if dst=some t then some v else S.T.get t:=by
 cases dst with
 |none=>
  have he:some S=some aS:=he;injection he with he;subst he
  exact⟨rfl,rfl,rfl,rfl,rfl,fun t=>by simp⟩
 |some d=>
  obtain⟨T,n,h4,b2,bJ,cJ⟩:=S;have he:Bool.rec (motive:=fun _=>Option bi) none (bi.uA n h4 b2 bJ cJ (bg.put v T d)) (Nat.ble (Nat.succ d) n)=some aS:=he;cases au:Nat.ble (Nat.succ d) n with
  |false=>rw[au] at he;cases he
  |true=>
   rw[au] at he;have he:bi.uA n h4 b2 bJ cJ (bg.put v T d)=some aS:=he;cases aw:bg.put v T d with
   |none=>rw[aw] at he;cases he
   |some eS=>
    rw[aw] at he;have he:some (bi.mk eS n h4 b2 bJ cJ)=some aS:=he;injection he with he;subst he
    refine⟨rfl,rfl,rfl,rfl,rfl,fun t=>?_⟩;show eS.get t=_;rw[bg.get_put aw];by_cases h:t=d
    ·subst h;simp
    ·rw[ap h,ap (fun q=>h (by injection q with q;exact q.symm))]
theorem bi.amA{S aS:bi}{dst:Option Tmp}{v:Value}(p:Nat->Bool)(he:S.put dst v=some aS):∃ph,(S.only p).put dst v=some ph:=by
 cases dst with
 |none=>exact⟨_,rfl⟩
 |some d=>
  obtain⟨T,n,h4,b2,bJ,cJ⟩:=S;have he:Bool.rec (motive:=fun _=>Option bi) none (bi.uA n h4 b2 bJ cJ (bg.put v T d)) (Nat.ble (Nat.succ d) n)=some aS:=he;show ∃ph,Bool.rec (motive:=fun _=>Option bi) none (bi.uA n h4 b2 bJ cJ (bg.put v (T.eF p) d)) (Nat.ble (Nat.succ d) n)=some ph;cases au:Nat.ble (Nat.succ d) n with
  |false=>rw[au] at he;cases he
  |true=>
   rw[au] at he;have he:bi.uA n h4 b2 bJ cJ (bg.put v T d)=some aS:=he;cases aw:bg.put v T d with
   |none=>rw[aw] at he;cases he
   |some eS=>
    obtain⟨ap0,e⟩:=bg.Yo p aw;rw[e];exact⟨_,rfl⟩
section
variable {P:Program}{H:aB}{T eS:bg Value}{ops:List Oper}{o:Oper}
theorem W9{t:Tmp}(h:Operand.tmp t∈o.op.operands):t∈looks ops o:=by
 unfold looks;exact pc _ (List.mem_filterMap.2 ⟨.tmp t,by simpa using h,rfl⟩)
theorem Lv(h:∀t∈looks ops o,eS.get t=T.get t):∀x∈o.op.operands,bk eS H x=bk T H x:=fun x U=>by
 cases x with
 |tmp t=>exact h t (W9 U)
 |const c=>rfl
 |global g=>rfl
 |func f=>rfl
theorem alF(h:∀t∈looks ops o,eS.get t=T.get t):∀x∈o.op.operands,qB eS x=qB T x:=fun x U=>by
 cases x with
 |tmp t=>exact h t (W9 U)
 |const c=>rfl
 |global g=>rfl
 |func f=>rfl
theorem tF(h:∀t∈looks ops o,eS.get t=T.get t):fj ops eS o=fj ops T o:=by
 unfold fj;cases aq:o.guard with
 |none=>rfl
 |some q=>
  obtain⟨j,want⟩:=q;show vw ops eS (j,want)=vw ops T (j,want);unfold vw;simp only
  cases aP:nth ops j with
  |none=>rfl
  |some p=>
   simp only
   cases aZ:p.dst with
   |none=>rfl
   |some d=>
    simp only
    rw[h d (by unfold looks;rw[aq];simp only[aP,aZ];exact h2 _ (by simp))]
theorem alL:∀{l:List (Nat×Operand)},(∀x∈l.map (·.2),qB eS x=qB T x)->sS eS l=sS T l:=by
 intro l;induction l with
 |nil=>intro _;rfl
 |cons x l aK=>
  intro h;obtain⟨i,x⟩:=x;simp only[sS];rw[h x (by simp),aK fun y ai=>h y (by simp at ai ⊢;exact .inr ai)]
theorem MI(h:∀t∈looks ops o,eS.get t=T.get t):nx P eS o.op=nx P T o.op:=by
 have h:=alF h;cases ar:o.op<;>rw[ar] at h<;>simp only[Op.operands] at h<;>simp only[nx]
 case box e x=>rw[h x (by simp)]
 case buildSlice t n eG=>rw[alL fun x U=>h x (by simpa using U)]
 case makeSlice t l c=>rw[h l (by simp),h c (by simp)]
 case makeMap t r=>cases r<;>rfl
end
theorem aa1{f:Value->Value->Bool}(aC:∀x y,f x y=true->x=y):∀{l m:List Value},u5 f l m=true->l=m:=by
 intro l;induction l with
 |nil=>intro m h;cases m with
  |nil=>rfl
  |cons=>cases h
 |cons x l aK=>intro m h;cases m with
  |nil=>cases h
  |cons y m=>
   simp only[u5,fU] at h;rw[aC x y h.1,aK h.2]
theorem SI{a b:Option Addr}(h:addrEq a b=true):a=b:=by
 unfold addrEq at h;split at h
 ·rfl
 ·simp only[fU] at h;rw[eN h.1,eN h.2]
 ·rfl
 ·cases h
theorem aoU:∀{n:Nat} {a b:Value},iC n a b=true->a=b:=by
 intro n;induction n with
 |zero=>intro a b h;cases h
 |succ n aK=>
  intro a b h;have arr:∀{x y:Array Value},u5 (iC n) x.toList y.toList=true->x=y:=fun q=>s0 (aa1 (fun _ _ z=>aK z) q);unfold iC at h;split at h
  ·rename_i a b;cases a<;>cases b<;>first|rfl|cases h
  ·simp only[fU] at h;rw[WZ h.1];have:=h.2;rw[El] at this;rw[eq_of_beq this]
  ·rename_i a b;have:=mA h;obtain⟨⟨x⟩⟩:=a;obtain⟨⟨y⟩⟩:=b;simp at this;rw[this]
  ·rw[SI h]
  ·simp only[fU] at h;rw[SI h.1.1,eN h.1.2,eN h.2]
  ·rename_i a b;cases a<;>cases b<;>simp only[Xp] at h<;>first|rfl|cases h|(rw[eN h])
  ·rfl
  ·rfl
  ·simp only[fU] at h;rw[eN h.1,aK h.2]
  ·rw[arr h]
  ·rw[arr h]
  ·simp only[fU] at h;rename_i f a b g c d;have:f=g:=by
    have:=h.1.1;unfold UA at this;split at this
    ·rw[eN this]
    ·cases this
   rw[this,arr h.1.2,arr h.2]
  ·cases h
section
variable {P:Program}{B:Nat->Prop}{w0 w:World}{μ:b1}{H H':aB}
theorem ca.amb(h:ca P B w0 μ H w){a:Nat}{b:ff}(aP:H.new b=some (a,H'))(ar:ka (some b)=false):ca P B w0 μ H' w:=by
 obtain⟨rfl,aN,bn,cP,eW,cv⟩:=aB.qz aP;have ew:∀x L,μ x=some L->H'.mem.get x=H.mem.get x:=fun x L U=>by
  have:=h.lt x L U;rw[cv,ap (by omega)]
 refine⟨h.below,h.nW,?_,?_,?_,?_,?_,?_,?_,?_,?_,?_⟩
 ·intro x L U;obtain⟨b',o',aa,ae,aG⟩:=h.fP x L U;exact⟨b',o',by rw[ew x L U];exact aa,ae,aG⟩
 ·intro x y eM gr fl U ai n';rcases h.sep x y eM gr fl U ai n' with d|d|⟨f,l,⟨c,e,z,s,q⟩,⟨ch,bG,hQ,c3,dz⟩,av,m1,m2⟩
  ·exact .inl (by rw[ew x eM U];exact d)
  ·exact .inr (.inl (by rw[ew y gr ai];exact d))
  ·exact .inr (.inr ⟨f,l,⟨c,e,z,s,by rw[ew x eM U];exact q⟩,⟨ch,bG,hQ,c3,by rw[ew y gr ai];exact dz⟩,by rw[bn];exact av,m1,m2⟩)
 ·intro x L U;have:=h.lt x L U;omega
 ·intro x L U aq;exact h.own x L U (by omega)
 ·intro x L U aq d';exact h.new x L U (by omega) (by rw[ew x L U] at d';exact d')
 ·intro g c e o f z s aq hm;have fD:g≠H.ak:=by have:=h.kM;omega
  rw[cv,ap fD] at hm;exact h.tE g c e o f z s (by omega) hm
 ·have:=h.kM;omega
 ·intro x c e f z s hm;rw[cv] at hm;split at hm
  ·injection hm with hm;rw[hm] at ar;simp[ka] at ar
  ·rw[cP];exact h.q9 x c e f z s hm
 ·intro f l x av U;rw[bn] at av;obtain⟨a,d⟩:=h.k3 f l x av U;refine⟨by omega,?_⟩;rw[cv,ap (by omega)];exact d
 ·intro f l av;rw[bn] at av;refine(h.vq f l av).imp_of_mem ?_;intro x y U ai fl c e f1 z s ch bG cW hQ c3 q dz;have e1:=(h.k3 f l x av U).1;have hf:=(h.k3 f l y av ai).1;rw[cv,ap (by omega)] at q dz;exact fl c e _ z s ch bG cW hQ c3 q dz
theorem ca.fill(h:ca P B w0 μ H w){a:Nat}{b:ff}{o:Obj}{L:Loc}(hm:μ a=none)(c4:a<H.ak)(aq:H.bZ<=a)(j6:H.mem.get a=some b)(ay:L.r=w.heap.size)(au:kg P μ L b o):
 ca P B w0 (μ.put a L) H (w.alloc o)/\Ext μ (μ.put a L):=by
 have hM:Ext μ (μ.put a L):=fun id bQ U=>by
  by_cases e:id=a
  ·subst e;rw[hm] at U;cases U
  ·rw[b1.uC _ _ e];exact U
 have ew:∀x bQ,(μ.put a L) x=some bQ->x≠a->μ x=some bQ:=fun x bQ q b=>by rwa [b1.uC _ _ b] at q
 have Pb:∀x bQ,μ x=some bQ->bQ.r<w.heap.size:=fun x bQ U=>by
  obtain⟨b',o',_,ar,_⟩:=h.fP x bQ U;rcases kY bQ.r w.heap.size with dE|dE
  ·exact dE
  ·rw[s3 dE] at ar;cases ar
 refine⟨⟨h.below.alloc h.nW o,?_,?_,?_,?_,?_,?_,?_,h.kM,h.q9,h.k3,h.vq⟩,hM⟩
 ·intro k aU;have:=h.nW k aU;show k<(w.heap.push o).size;rw[RU];omega
 ·intro x bQ U;by_cases dk:x=a
  ·subst dk;rw[b1.kT] at U;injection U with U;subst U
   exact⟨b,o,j6,by rw[DV,ay];simp,au.mono hM⟩
  ·have e1:=ew x bQ U dk;obtain⟨b',o',aa,ae,aG⟩:=h.fP x bQ e1;exact⟨b',o',aa,by rw[DV,ap (by have:=Pb x bQ e1;omega)];exact ae,aG.mono hM⟩
 ·intro x y eM gr fl U ai n';by_cases dk:x=a
  ·subst dk;rw[b1.kT] at U;injection U with U;subst U
   have:=Pb y gr (ew y gr ai (Ne.symm fl));omega
  ·by_cases kQ:y=a
   ·subst kQ;rw[b1.kT] at ai;injection ai with ai;subst ai
    have:=Pb x eM (ew x eM U dk);omega
   ·exact h.sep x y eM gr fl (ew x eM U dk) (ew y gr ai kQ) n'
 ·intro x bQ U;by_cases dk:x=a
  ·omega
  ·exact h.lt x bQ (ew x bQ U dk)
 ·intro x bQ U Ha;have dk:x≠a:=by omega
  exact h.own x bQ (ew x bQ U dk) Ha
 ·intro x bQ U Ha d';by_cases dk:x=a
  ·subst dk;rw[b1.kT] at U;injection U with U;subst U
   rw[ay];exact fun q=>Fx _ (h.nW _ q)
  ·exact h.new x bQ (ew x bQ U dk) Ha d'
 ·intro g c e o f z s Ha Pc;obtain⟨bQ,bT⟩:=h.tE g c e o f z s Ha Pc;exact⟨bQ,hM _ _ bT⟩
theorem QZ{cells cells':List Value}{elem:TypeId}(aH:b4 μ cells cells')(r:Nat):kg P μ ⟨r,cells.length,P.cellsOf elem⟩ (.row cells elem false 0 0 false) (.cells cells'.toArray elem):=
 ⟨rfl,by simp[aH.1],rfl,cZ _,fun _=>rfl,fun i v v' a b=>aH.2 i v v' a (by simpa using b),fun off _ aa ae=>by simp at ae,fun _=>.inl rfl⟩
def iN.ok:iN->Bool
 |.Ck _ c=>decide (c<c9)
 |_=>true
theorem iN.rel{ep:iN}(h:ep.ok=true){a:Nat}{L:Loc}(hm:μ a=some L):bF μ (ep.at a) (ep.at L.r):=by
 cases ep with
 |ptr=>exact .ptr a 0 L hm
 |Ck l c=>exact .nP a 0 l c L hm (mA h)
 |map=>exact .map a L hm
def Mj(P:Program)(μ:b1)(w:World)(s:Sem Value)(b:ff)(ep:iN):Prop:=
 ∃pC N sz,s.run P w=.ok (ep.at w.heap.size) (w.alloc pC)/\kg P μ ⟨w.heap.size,N,sz⟩ b pC/\ka (some b)=false/\ep.ok=true
theorem SO{elem:TypeId}{v v':Value}{b:ff}{ep:iN}(az:bF μ v v')(he:Az elem v=some (b,ep))(w:World):Mj P μ w (Instr.box elem v') b ep:=by
 unfold Az at he;cases ar:v.cells.toList.all eQ with
 |false=>rw[ar] at he;cases he
 |true=>
  rw[ar,cb] at he;simp only[cp,dC] at he;obtain⟨rfl,rfl⟩:=he;refine⟨_,_,_,?_,QZ az.cells _,rfl,rfl⟩;simp[Instr.box,newVar,newRow,newObj,Sem.run,iN.at]
theorem aa7{t:TypeId}{l l' c ch:Value}{b:ff}{ep:iN}(av:bF μ l l')(aH:bF μ c ch)(he:FN P t l c=some (b,ep))(w:World):Mj P μ w (Instr.makeSlice t l' ch) b ep:=by
 unfold FN at he;cases l with
 |int bp l=>
  cases c with
  |int bC c=>
   obtain rfl:=av.qu;obtain rfl:=aH.qu;cases hu:P.underlying t with
   |none=>rw[hu] at he;simp at he
   |some d=>
    rw[hu] at he;cases d with
    |slice elem=>
     simp only at he;cases bN:fw P elem with
     |none=>rw[bN] at he;simp at he
     |some z=>
      rw[bN] at he;cases h':vb P elem with
      |none=>rw[h'] at he;simp at he
      |some gS=>
       rw[h'] at he;cases af:ej P elem with
       |none=>rw[af] at he;simp at he
       |some sz=>
        rw[af] at he;simp only at he;cases tQ:qt c 1000000 with
        |none=>rw[tQ] at he;simp at he
        |some aQ=>
         rw[tQ] at he;cases c6:qt l 1000000 with
         |none=>rw[c6] at he;simp at he
         |some BM=>
          rw[c6] at he;simp only at he;cases xj:(Nat.ble BM aQ&&Nat.ble gS 1000000&&Nat.beq z.cells.toList.length sz&&z.cells.toList.all eQ&&plain z) with
          |false=>rw[xj] at he;simp at he
          |true=>
           rw[xj,cb] at he;simp only[fU] at xj;obtain⟨⟨⟨⟨bd,a6⟩,b9⟩,fN⟩,kd⟩:=xj;have bd:=h3 bd;have a6:=h3 a6;have b9:=eN b9;obtain⟨rfl,ji⟩:=En tQ;obtain⟨rfl,Hj⟩:=En c6;simp only[cp,dC] at he;obtain⟨rfl,rfl⟩:=he;have vP:b4 μ z.cells.toList z.cells.toList:=(qD kd).cells;have Bl:b4 μ (gG z.cells.toList aQ) (gG z.cells.toList aQ):=b4.IJ fun v az=>by
               exact Mh (p:=fun v=>bF μ v v) az (fun u hu=>by
                obtain⟨i,ao⟩:=kj.1 hu;exact vP.2 i u u ao ao)
           refine⟨_,_,_,?_,QZ Bl _,rfl,yV (by have:(1000000:Nat)<c9:=by decide
                                              omega)⟩
           obtain⟨i,ao,rfl⟩:=MU h'
           have xI:i.zero=some z:=by simpa[fw,ao] using bN
           have sH:i.size=sz:=by simpa[ej,ao] using af
           have hmul:i.bytes*aQ<=1000000*1000000:=Ss a6 ji;have lc:=Mi z.cells.toList aQ;have iv:=run_make (P:=P) w t elem i z hu ao xI bp bC (BM:Int) (aQ:Int) (by omega) (by omega) (by
               have:(i.bytes:Int)*(aQ:Int)=((i.bytes*aQ:Nat):Int):=by simp
               rw[this];omega) (by omega)
           rw[iv];simp only[cy,iN.at];congr 3
           rw[<-lc];simp[madeCells,sH,<-b9]
    |_=>simp at he
  |_=>simp at he
 |_=>simp at he
theorem aa5{t:TypeId}{len:Nat}{parts mC:List (Nat×Value)}{b:ff}{ep:iN}(aw:wv μ parts mC)(he:FM P t len parts=some (b,ep))(w:World):Mj P μ w (Instr.buildSlice t len mC.toArray) b ep:=by
 unfold FM at he;cases hu:P.underlying t with
 |none=>rw[hu] at he;simp at he
 |some d=>
  rw[hu] at he;cases d with
  |slice elem=>
   simp only at he;cases af:ej P elem with
   |none=>rw[af] at he;simp at he
   |some sz=>
    rw[af] at he;cases bN:fw P elem with
    |none=>rw[bN] at he;simp at he
    |some z=>
     rw[bN] at he;simp only at he;cases aH:(Nat.ble len 100000&&Nat.ble (len*sz) 100000&&plain z&&Nat.beq z.cells.toList.length sz) with
     |false=>rw[aH] at he;simp at he
     |true=>
      rw[aH,cb] at he;simp only[fU] at aH;obtain⟨⟨⟨nN,bd⟩,a6⟩,b9⟩:=aH;have nN:=h3 nN;have bd:=h3 bd;have b9:=eN b9;cases aC:nC (fun i=>some (i*sz,sz)) (gG z.cells.toList len) parts with
      |none=>rw[aC] at he;simp at he
      |some cells=>
       rw[aC] at he;simp only at he;cases ar:cells.all eQ with
       |false=>rw[ar] at he;simp at he
       |true=>
        rw[ar,cb] at he;simp only[cp,dC] at he;obtain⟨rfl,rfl⟩:=he;have vP:b4 μ z.cells.toList z.cells.toList:=(qD a6).cells;have Bl:b4 μ (gG z.cells.toList len) (gG z.cells.toList len):=b4.IJ fun v az=>
         Mh (p:=fun v=>bF μ v v) az (fun u hu=>by
           obtain⟨i,ao⟩:=kj.1 hu;exact vP.2 i u u ao ao)
        obtain⟨dw,a,b⟩:=J9 aw Bl aC
        refine⟨_,_,_,?_,QZ b _,rfl,yV (by have:(100000:Nat)<c9:=by decide
                                          omega)⟩
        have lc:=Mi z.cells.toList len;have ajC:z.cells.size=sz:=by simpa using b9
        have OB:¬(16777216<len*sz):=by omega
        rw[b9] at lc;simp only[aar] at lc;by_cases bD:len*sz=0
        ·have j8:gG z.cells.toList len=[]:=s9.1 (by rw[RI,b9];exact bD)
         rw[j8] at a;have bY:Instr.fill (fun i=>some (i*sz,sz)) (Array.map (fun _=>(default:Value)) (Array.range 0)) mC=some dw.toArray:=by
          have iH:Array.map (fun _:Nat=>(default:Value)) (Array.range 0)=#[]:=by simp
          rw[iH];exact a
         simp[Instr.buildSlice,eY hu,kC af,bD,bY,newRow,newObj,Sem.run,iN.at]
        ·have bY:Instr.fill (fun i=>some (i*sz,sz)) ((Array.range (len*sz)).map fun i=>z.cells[i % z.cells.size]!) mC=some dw.toArray:=by rw[lc];exact a
         simp[Instr.buildSlice,eY hu,kC af,OB,bD,yh bN,bY,newRow,newObj,Sem.run,iN.at]
  |_=>simp at he
theorem Lu{T:bg Value}{n:Nat}{tmps:Array Value}(aD:lu μ T n tmps){x:Operand}{v:Value}(he:qB T x=some v):bF μ v (dA tmps x):=by
 cases x with
 |tmp t=>exact aD.2 t v he
 |const c=>
  have he:(bif plain c then some c else none)=some v:=he;cases aw:plain c with
  |false=>rw[aw] at he;simp at he
  |true=>rw[aw] at he;simp at he;subst he;exact qD aw
 |global g=>cases he
 |func f=>
  have he:some (Value.func (.func f) #[] #[])=some v:=he;injection he with he;subst he
  exact .func _ _ _ _ _ rfl rfl rfl (fun i v v' q=>by simp at q) (fun i v v' q=>by simp at q)
theorem alN{T:bg Value}{n:Nat}{tmps:Array Value}(aD:lu μ T n tmps):∀{l:List (Nat×Operand)} {eG:List (Nat×Value)},sS T l=some eG->wv μ eG (l.map fun(i,x)=>(i,dA tmps x)):=by
 intro l;induction l with
 |nil=>intro eG h;simp[sS] at h;subst h;exact⟨rfl,fun i p hO q=>by simp at q⟩
 |cons x l aK=>
  intro eG h;obtain⟨i,x⟩:=x;simp only[sS] at h;cases aa:qB T x with
  |none=>rw[aa] at h;cases h
  |some v=>
   rw[aa] at h;cases ae:sS T l with
   |none=>rw[ae] at h;cases h
   |some r=>
    rw[ae] at h;injection h with h;subst h
    have:=aK ae;refine⟨by simp[this.1],fun j p hO q dz=>?_⟩;cases j with
    |zero=>simp at q dz;subst q;subst dz;exact⟨rfl,Lu aD aa⟩
    |succ j=>exact this.2 j p hO (by simpa using q) (by simpa using dz)
theorem W6{t:TypeId}{r:Operand}{b:ff}{ep:iN}(he:H3 P t r=some (b,ep)):b=.dead/\ep=.map/\r=.const (.int .i64 (.ofNat 0))/\∃key el,P.underlying t=some (.map key el):=by
 unfold H3 at he;split at he
 ·cases hu:P.underlying t with
  |none=>rw[hu] at he;cases he
  |some d=>
   rw[hu] at he;cases d with
   |map a c=>
    simp only[cp,dC] at he;exact⟨he.1.symm,he.2.symm,rfl,a,c,rfl⟩
   |_=>cases he
 ·cases he
theorem aa8{T:bg Value}{n:Nat}{tmps:Array Value}{o:Oper}{b:ff}{ep:iN}(aD:lu μ T n tmps)(he:nx P T o.op=some (b,ep))(w:World):
 ∃pC N sz,(execOp (dA tmps) o).run P w=.ok (.value (ep.at w.heap.size)) (w.alloc pC)/\kg P μ ⟨w.heap.size,N,sz⟩ b pC/\ka (some b)=false/\ep.ok=true:=by
 cases ar:o.op<;>rw[ar] at he<;>simp only[nx] at he
 case alloc elem=>
  cases bN:fw P elem with
  |none=>rw[bN] at he;cases he
  |some z=>
   rw[bN] at he;cases aw:plain z with
   |false=>simp only[aw] at he;cases he
   |true=>
    simp only[aw,cb] at he;obtain⟨pC,N,sz,bo,a2,a3,a4⟩:=SO (P:=P) (qD (μ:=μ) aw) he w;refine⟨pC,N,sz,?_,a2,a3,a4⟩;have:(Instr.alloc elem true (.tuple #[])).run P w=.ok (ep.at w.heap.size) (w.alloc pC):=by simpa[Instr.alloc,Instr.box,yh bN] using bo
    simp[execOp,ar,this]
 case box elem x=>
  cases U:qB T x with
  |none=>rw[U] at he;cases he
  |some v=>
   rw[U] at he;obtain⟨pC,N,sz,bo,a2,a3,a4⟩:=SO (P:=P) (Lu aD U) he w;exact⟨pC,N,sz,by simp[execOp,ar,bo],a2,a3,a4⟩
 case buildSlice t len parts=>
  cases U:sS T parts.toList with
  |none=>rw[U] at he;cases he
  |some eG=>
   rw[U] at he;obtain⟨pC,N,sz,bo,a2,a3,a4⟩:=aa5 (P:=P) (alN aD U) he w;have aN:(parts.toList.map fun(i,x)=>(i,dA tmps x)).toArray=parts.map fun(i,x)=>(i,dA tmps x):=by apply s0;simp
   rw[aN] at bo;exact⟨pC,N,sz,by simp[execOp,ar,bo],a2,a3,a4⟩
 case makeMap t r=>
  cases r with
  |some r=>
   obtain⟨rfl,rfl,rfl,key,el,hu⟩:=W6 (show H3 P t r=some (b,ep) from he);exact⟨.map #[] 0,0,0,by simp[execOp,ar,Instr.makeMap,newObj,Sem.run,iN.at,eY hu,dA,asInt,asIntOf],trivial,rfl,rfl⟩
  |none=>
   simp only[cp,dC] at he;obtain⟨rfl,rfl⟩:=he;exact⟨.map #[] 0,0,0,by simp[execOp,ar,Instr.makeMap,newObj,Sem.run,iN.at],An.nil _,rfl,rfl⟩
 case makeSlice t l c=>
  cases aa:qB T l with
  |none=>rw[aa] at he;cases he
  |some lv=>
   cases ae:qB T c with
   |none=>rw[aa,ae] at he;cases he
   |some gJ=>
    rw[aa,ae] at he;obtain⟨pC,N,sz,bo,a2,a3,a4⟩:=aa7 (P:=P) (Lu aD aa) (Lu aD ae) he w;exact⟨pC,N,sz,by simp[execOp,ar,bo],a2,a3,a4⟩
 all_goals cases he
end
end
end Go.Cre
namespace Go.Cre
noncomputable section
open Go.RowKit
theorem z6(a b i:Nat):Nat.testBit (Nat.lor a b) i=(a.testBit i||b.testBit i):=Nat.testBit_or a b i
theorem L3(a b i:Nat):Nat.testBit (Nat.land a b) i=(a.testBit i&&b.testBit i):=Nat.testBit_and a b i
theorem L4(i j:Nat):Nat.testBit (Nat.pow 2 i) j=decide (i=j):=Nat.testBit_two_pow (n:=i) (m:=j)
theorem lm{C i j:Nat}:Nat.testBit (Nat.lor C (Nat.pow 2 i)) j=true↔Nat.testBit C j=true\/i=j:=by
 rw[z6,L4];simp
theorem Rm{a b:Nat}(h:sub a b=true){i:Nat}(ao:a.testBit i=true):b.testBit i=true:=by
 have h:=eN h;rw[<-h,L3] at ao;simp at ao;exact ao.2
theorem T'{l:List Edge}{i:Nat}:(Dr l).testBit i=true↔∃e∈l,Region.binds .any e=true/\e.on=i:=by
 induction l with
 |nil=>simp[Dr]
 |cons e l aK=>
  simp only[Dr];cases au:Region.binds .any e with
  |false=>simp[aK,au]
  |true=>rw[cb,z6,L4];simp[aK,au]
theorem aks{l:List Nat}{i:Nat}:(BO l).testBit i=true↔i∈l:=by
 induction l with
 |nil=>simp[BO]
 |cons e l aK=>
  simp only[BO];rw[z6,L4,yj,aK,fg,lS];exact⟨fun q=>q.imp Eq.symm id,fun q=>q.imp Eq.symm id⟩
theorem ajV{C:Nat}:∀{n:Nat},K3 C n=true->∀i,i<n->C.testBit i=true:=by
 intro n;induction n with
 |zero=>intro _ i ao;omega
 |succ n aK=>
  intro h i ao;simp only[K3,fU] at h;by_cases e:i=n
  ·subst e;exact h.1
  ·exact aK h.2 i (by omega)
theorem alg{C i:Nat}:∀{l:List Oper} {k:Nat},only C i l k=true->∀j o,l[j]?=some o->C.testBit (k+j)=true\/k+j=i\/sub (Oper.fL o) C=false:=by
 intro l;induction l with
 |nil=>intro k _ j o h;simp at h
 |cons a l aK=>
  intro k h j o ar;simp only[only,fU,yj,qL] at h;cases j with
  |zero=>
   simp at ar;subst ar;rcases h.1 with(q|q)|q
   ·exact .inl q
   ·exact .inr (.inl (eN q))
   ·exact .inr (.inr q)
  |succ j=>
   have:=aK h.2 j o (by simpa using ar);have e:k+1+j=k+(j+1):=by omega
   rw[e] at this;exact this
theorem aa3{bU cg C:Nat}:∀{l:List Nat},JE bU cg C l=true->∀i∈l,C.testBit i=true/\cg.testBit i=false:=by
 intro l;induction l with
 |nil=>intro _ i ao;simp at ao
 |cons a l aK=>
  intro h i ao;simp only[JE,fU,qL] at h;rcases fg.1 ao with rfl|ao
  ·exact h.1
  ·exact aK h.2 i ao
theorem acD{ops:List Oper}{D:Nat->Bool}(aZ:∀i o j,D i=true->ops[i]?=some o->(Oper.fL o).testBit j=true->D j=true):∀{n K:Nat},(∀i,K.testBit i=true->D i=true)->∀i,(vg ops n K).testBit i=true->D i=true:=by
 intro n;induction n with
 |zero=>intro K h i ao;exact h i ao
 |succ n aK=>
  intro K h i ao;simp only[vg] at ao;refine aK (fun j ba=>?_) i ao;cases au:K.testBit n with
  |false=>rw[au] at ba;exact h j ba
  |true=>
   rw[au,cb] at ba;rw[kR] at ba;cases ar:ops[n]? with
   |none=>rw[ar] at ba;exact h j ba
   |some o=>
    rw[ar] at ba;simp only at ba;rw[z6] at ba;simp only[yj] at ba;rcases ba with q|q
    ·exact h j q
    ·exact aZ n o j (h n au) ar q
theorem aa6{l:List Oper}:∀{k j:Nat} {o:Oper},l[j]?=some o->zt o.op=true->(yD l k).testBit (k+j)=true:=by
 induction l with
 |nil=>intro k j o h;simp at h
 |cons a l aK=>
  intro k j o ar a';simp only[yD];rw[z6];cases j with
  |zero=>simp at ar;subst ar;rw[a',cb,L4];simp
  |succ j=>
   have:=aK (k:=k+1) (by simpa using ar) a';have e:k+1+j=k+(j+1):=by omega
   rw[e] at this;rw[this];simp
structure wy (ops:List Oper) (bU:Nat):Prop where
 dst:∀(i j:Nat) a b d,ops[i]?=some a->ops[j]?=some b->i≠j->a.dst=some d->b.dst≠some d
 look:∀(i j:Nat) a b d,ops[i]?=some a->ops[j]?=some b->a.dst=some d->d∈looks ops b->(Oper.fL b).testBit i=true\/(bU.testBit i=true/\(i=j\/(Oper.fL a).testBit j=true))
 down:∀(i:Nat) a j,ops[i]?=some a->(Oper.fL a).testBit j=true->j<i
 bV:∀(i:Nat) a,ops[i]?=some a->bU.testBit i=false->Eo a.op=false
theorem alK{ops:List Oper}{bU i:Nat}{a:Oper}:∀{l:List Oper} {k:Nat},Lw ops bU i a l k=true->∀j b,l[j]?=some b->EK ops bU i (k+j) a b=true:=by
 intro l;induction l with
 |nil=>intro k _ j b h;simp at h
 |cons c l aK=>
  intro k h j b au;simp only[Lw,fU] at h;cases j with
  |zero=>simp at au;subst au;exact h.1
  |succ j=>
   have:=aK h.2 j b (by simpa using au);have e:k+1+j=k+(j+1):=by omega
   rw[e] at this;exact this
theorem QJ{ops:List Oper}{bU:Nat}:∀{l:List Oper} {k:Nat},Iz ops bU l k=true->∀i a,l[i]?=some a->
 (∀j b,ops[j]?=some b->EK ops bU (k+i) j a b=true)/\(Oper.fL a)<2 ^ (k+i)/\(bU.testBit (k+i)=true\/Eo a.op=false):=by
 intro l;induction l with
 |nil=>intro k _ i a h;simp at h
 |cons c l aK=>
  intro k h i a a';simp only[Iz,fU,yj,qL] at h;cases i with
  |zero=>
   simp at a';subst a';refine⟨fun j b au=>?_,h3 h.1.1.2,h.1.2⟩;have:=alK h.1.1.1 j b au;simpa using this
  |succ i=>
   have:=aK h.2 i a (by simpa using a');have e:k+1+i=k+(i+1):=by omega
   rw[e] at this;exact this
theorem anG{ops:List Oper}{bU:Nat}(h:Iz ops bU ops 0=true):wy ops bU:=by
 have aw:∀(i j:Nat) a b,ops[i]?=some a->ops[j]?=some b->EK ops bU i j a b=true:=fun i j a b a' au=>by
  have:=(QJ h i a a').1 j b au;simpa using this
 refine⟨fun i j a b d a' au O3 aZ xl=>?_,fun i j a b d a' au aZ av=>?_,fun i a j a' ba=>?_,fun i a a' aH=>?_⟩
 ·have:=aw i j a b a' au;simp only[EK,fU,yj,qL] at this;rcases this.1 with q|q
  ·exact O3 (eN q)
  ·simp[YN,aZ,xl] at q
 ·have:=aw i j a b a' au;simp only[EK,fU,yj,qL] at this;rcases this.2 with(q|q)|q
  ·exfalso;simp only[Qg,aZ] at q;rw[List.any_eq_false] at q;exact q d av (by simp)
  ·exact .inl q
  ·exact .inr ⟨q.1,q.2.imp (fun x=>eN x) id⟩
 ·have ae:=(QJ h i a a').2.1;rw[ls] at ae;rcases kY j i with q|q
  ·exact q
  ·have aG:(Oper.fL a)<2 ^ j:=yv ae (Nat.pow_le_pow_right (by omega) q);rw[Nat.testBit_lt_two_pow aG] at ba;cases ba
 ·have ae:=(QJ h i a a').2.2;rw[ls] at ae;rcases ae with q|q
  ·rw[q] at aH;cases aH
  ·exact q
theorem SP{P:Program}{T:bg Value}{op:Op}{b:ff}{ep:iN}(he:nx P T op=some (b,ep)):ka (some b)=false:=by
 have box:∀{elem v},Az elem v=some (b,ep)->ka (some b)=false:=fun{elem v} q=>by
  unfold Az at q;cases ar:v.cells.toList.all eQ with
  |false=>rw[ar] at q;cases q
  |true=>rw[ar,cb] at q;simp only[cp,dC] at q;obtain⟨rfl,rfl⟩:=q;rfl
 have fin:∀{c:Bool} {cells:List Value} {elem:TypeId} {k:iN},(bif c then some (ff.row cells elem false 0 0 false,k) else none)=some (b,ep)->ka (some b)=false:=fun{c cells elem k} q=>by
  cases c with
  |false=>cases q
  |true=>simp only[cb,cp,dC] at q;obtain⟨rfl,rfl⟩:=q;rfl
 cases op<;>simp only[nx] at he
 case alloc elem=>
  split at he
  ·rename_i z _;cases aw:plain z with
   |false=>rw[aw] at he;cases he
   |true=>rw[aw,cb] at he;exact box he
  ·cases he
 case box elem x=>
  split at he
  ·exact box he
  ·cases he
 case buildSlice t len eG=>
  split at he
  ·unfold FM at he;split at he
   ·split at he
    ·rename_i sz z _ _;cases aH:(Nat.ble len 100000&&Nat.ble (len*sz) 100000&&plain z&&Nat.beq z.cells.toList.length sz) with
     |false=>rw[aH] at he;cases he
     |true=>
      rw[aH,cb] at he;split at he
      ·exact fin he
      ·cases he
    ·cases he
   ·cases he
  ·cases he
 case makeMap t r=>
  cases r with
  |some r=>obtain⟨rfl,rfl,_⟩:=W6 (show H3 P t r=some (b,ep) from he);rfl
  |none=>simp only[cp,dC] at he;obtain⟨rfl,rfl⟩:=he;rfl
 case makeSlice t l c=>
  split at he
  ·unfold FN at he;split at he
   ·split at he
    ·split at he
     ·exact fin he
     ·cases he
    ·cases he
   ·cases he
  ·cases he
 all_goals cases he
end
end Go.Cre

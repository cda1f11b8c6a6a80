/- A part of the proof of SampleParts. -/
import Derived.Test.YtdbhjgpppmkagaaGreatCal
set_option linter.unusedVariables false
set_option linter.unusedSimpArgs false
namespace Go.Cre
noncomputable section
open Go.RowKit
def aX.e7 {α:Type}:aX α->(Nat->Bool)->aX α
 |.leaf,_=>.leaf
 |.node v l r,p=>.node (if p 0 then v else none) (l.e7 fun k=>p (2*k+1)) (r.e7 fun k=>p (2*k+2))
theorem aX.Lq{α:Type}(t:aX α):∀(p:Nat->Bool) (n:Nat),(t.e7 p).get n=if p n then t.get n else none:=by
 induction t with
 |leaf=>intro p n;simp[aX.e7,aX.R1]
 |node v l r vJ vK=>
  intro p n;cases n with
  |zero=>simp[aX.e7,aX.D3]
  |succ m=>
   simp only[aX.e7,aX.p1];by_cases h:m % 2=0
   ·rw[aF h,aF h,vJ];have:2*(m / 2)+1=m+1:=by omega
    rw[this]
   ·rw[aq h,aq h,vK];have:2*(m / 2)+2=m+1:=by omega
    rw[this]
theorem aX.Vv{α:Type}{a:α}{t:aX α}:∀{pE:aX α} {n:Nat} (p:Nat->Bool),aX.put a t n=some pE->∃ajT,aX.put a (t.e7 p) n=some ajT:=by
 induction t with
 |leaf=>
  intro pE n p h;exact⟨pE,h⟩
 |node v l r vJ vK=>
  intro pE n p h;cases n with
  |zero=>exact⟨_,rfl⟩
  |succ m=>
   simp only[aX.e7];rw[aX.Jg] at h ⊢;by_cases hm:m % 2=0
   ·rw[aF hm] at h ⊢;cases ay:aX.put a l (m / 2) with
    |none=>rw[ay] at h;cases h
    |some l'=>obtain⟨IB,e⟩:=vJ (fun k=>p (2*k+1)) ay;rw[e];exact⟨_,rfl⟩
   ·rw[aq hm] at h ⊢;cases ax:aX.put a r (m / 2) with
    |none=>rw[ax] at h;cases h
    |some b7=>obtain⟨aoO,e⟩:=vK (fun k=>p (2*k+2)) ax;rw[e];exact⟨_,rfl⟩
def aQ.only (S:aQ)(p:Nat->Bool):aQ:=⟨S.T.e7 p,S.n,S.ds,S.b0,S.b8,S.cB⟩
theorem aQ.put_eq{S aO:aQ}{dst:Option Tmp}{v:Value}(he:S.put dst v=some aO):
 aO.n=S.n/\aO.ds=S.ds/\aO.b0=S.b0/\aO.b8=S.b8/\aO.cB=S.cB/\∀t,aO.T.get t=if dst=some t then some v else S.T.get t:=by
 cases dst with
 |none=>
  have he:some S=some aO:=he;injection he with he;subst he
  exact⟨rfl,rfl,rfl,rfl,rfl,fun t=>by simp⟩
 |some d=>
  obtain⟨T,n,fH,b0,b8,cB⟩:=S;have he:Bool.rec (motive:=fun _=>Option aQ) none (aQ.rM n fH b0 b8 cB (aX.put v T d)) (Nat.ble (Nat.succ d) n)=some aO:=he;cases ai:Nat.ble (Nat.succ d) n with
  |false=>rw[ai] at he;cases he
  |true=>
   rw[ai] at he;have he:aQ.rM n fH b0 b8 cB (aX.put v T d)=some aO:=he;cases au:aX.put v T d with
   |none=>rw[au] at he;cases he
   |some dP=>
    rw[au] at he;have he:some (aQ.mk dP n fH b0 b8 cB)=some aO:=he;injection he with he;subst he
    refine⟨rfl,rfl,rfl,rfl,rfl,fun t=>?_⟩;show dP.get t=_;rw[aX.get_put au];by_cases h:t=d
    ·subst h;simp
    ·rw[aq h,aq (fun q=>h (by injection q with q;exact q.symm))]
theorem aQ.ah'{S aO:aQ}{dst:Option Tmp}{v:Value}(p:Nat->Bool)(he:S.put dst v=some aO):∃oj,(S.only p).put dst v=some oj:=by
 cases dst with
 |none=>exact⟨_,rfl⟩
 |some d=>
  obtain⟨T,n,fH,b0,b8,cB⟩:=S;have he:Bool.rec (motive:=fun _=>Option aQ) none (aQ.rM n fH b0 b8 cB (aX.put v T d)) (Nat.ble (Nat.succ d) n)=some aO:=he;show ∃oj,Bool.rec (motive:=fun _=>Option aQ) none (aQ.rM n fH b0 b8 cB (aX.put v (T.e7 p) d)) (Nat.ble (Nat.succ d) n)=some oj;cases ai:Nat.ble (Nat.succ d) n with
  |false=>rw[ai] at he;cases he
  |true=>
   rw[ai] at he;have he:aQ.rM n fH b0 b8 cB (aX.put v T d)=some aO:=he;cases au:aX.put v T d with
   |none=>rw[au] at he;cases he
   |some dP=>
    obtain⟨alO,e⟩:=aX.Vv p au;rw[e];exact⟨_,rfl⟩
section
variable {P:Program}{H:ao}{T dP:aX Value}{ops:List Oper}{o:Oper}
theorem Ui{t:Tmp}(h:Operand.tmp t∈o.op.operands):t∈looks ops o:=by
 unfold looks;exact rZ _ (List.mem_filterMap.2 ⟨.tmp t,by simpa using h,rfl⟩)
theorem I2(h:∀t∈looks ops o,dP.get t=T.get t):∀x∈o.op.operands,a6 dP H x=a6 T H x:=fun x I=>by
 cases x with
 |tmp t=>exact h t (Ui I)
 |const c=>rfl
 |global g=>rfl
 |func f=>rfl
theorem agY(h:∀t∈looks ops o,dP.get t=T.get t):∀x∈o.op.operands,py dP x=py T x:=fun x I=>by
 cases x with
 |tmp t=>exact h t (Ui I)
 |const c=>rfl
 |global g=>rfl
 |func f=>rfl
theorem sl(h:∀t∈looks ops o,dP.get t=T.get t):fW ops dP o=fW ops T o:=by
 unfold fW;cases ar:o.guard with
 |none=>rfl
 |some q=>
  obtain⟨j,want⟩:=q;show tJ ops dP (j,want)=tJ ops T (j,want);unfold tJ;simp only
  cases aM:nth ops j with
  |none=>rfl
  |some p=>
   simp only
   cases aS:p.dst with
   |none=>rfl
   |some d=>
    simp only
    rw[h d (by unfold looks;rw[ar];simp only[aM,aS];exact lm _ (by simp))]
theorem ag6:∀{l:List (Nat×Operand)},(∀x∈l.map (·.2),py dP x=py T x)->rI dP l=rI T l:=by
 intro l;induction l with
 |nil=>intro _;rfl
 |cons x l aG=>
  intro h;obtain⟨i,x⟩:=x;simp only[rI];rw[h x (by simp),aG fun y ah=>h y (by simp at ah ⊢;exact .inr ah)]
theorem Ks(h:∀t∈looks ops o,dP.get t=T.get t):mg P dP o.op=mg P T o.op:=by
 have h:=agY h;cases an:o.op<;>rw[an] at h<;>simp only[Op.operands] at h<;>simp only[mg]
 case box e x=>rw[h x (by simp)]
 case buildSlice t n dx=>rw[ag6 fun x I=>h x (by simpa using I)]
 case makeSlice t l c=>rw[h l (by simp),h c (by simp)]
 case makeMap t r=>cases r<;>rfl
end
theorem Yb{f:Value->Value->Bool}(aw:∀x y,f x y=true->x=y):∀{l m:List Value},qS f l m=true->l=m:=by
 intro l;induction l with
 |nil=>intro m h;cases m with
  |nil=>rfl
  |cons=>cases h
 |cons x l aG=>intro m h;cases m with
  |nil=>cases h
  |cons y m=>
   simp only[qS,fR] at h;rw[aw x y h.1,aG h.2]
theorem Qi{a b:Option Addr}(h:addrEq a b=true):a=b:=by
 unfold addrEq at h;split at h
 ·rfl
 ·simp only[fR] at h;rw[eK h.1,eK h.2]
 ·rfl
 ·cases h
theorem akz:∀{n:Nat} {a b:Value},hA n a b=true->a=b:=by
 intro n;induction n with
 |zero=>intro a b h;cases h
 |succ n aG=>
  intro a b h;have arr:∀{x y:Array Value},qS (hA n) x.toList y.toList=true->x=y:=fun q=>qI (Yb (fun _ _ z=>aG z) q);unfold hA at h;split at h
  ·rename_i a b;cases a<;>cases b<;>first|rfl|cases h
  ·simp only[fR] at h;rw[T8 h.1];have:=h.2;rw[BK] at this;rw[eq_of_beq this]
  ·rename_i a b;have:=B7 h;obtain⟨⟨x⟩⟩:=a;obtain⟨⟨y⟩⟩:=b;simp at this;rw[this]
  ·rw[Qi h]
  ·simp only[fR] at h;rw[Qi h.1.1,eK h.1.2,eK h.2]
  ·rename_i a b;cases a<;>cases b<;>simp only[UB] at h<;>first|rfl|cases h|(rw[eK h])
  ·rfl
  ·rfl
  ·simp only[fR] at h;rw[eK h.1,aG h.2]
  ·rw[arr h]
  ·rw[arr h]
  ·simp only[fR] at h;rename_i f a b g c d;have:f=g:=by
    have:=h.1.1;unfold Lh at this;split at this
    ·rw[eK this]
    ·cases this
   rw[this,arr h.1.2,arr h.2]
  ·cases h
section
variable {P:Program}{B:Nat->Prop}{w0 w:World}{μ:bH}{H H':ao}
theorem bR.ahI(h:bR P B w0 μ H w){a:Nat}{b:fa}(aM:H.new b=some (a,H'))(an:jU (some b)=false):bR P B w0 μ H' w:=by
 obtain⟨rfl,aD,a5,cC,e0,ch⟩:=ao.n1 aM;have eO:∀x L,μ x=some L->H'.mem.get x=H.mem.get x:=fun x L I=>by
  have:=h.lt x L I;rw[ch,aq (by omega)]
 refine⟨h.below,h.nf,?_,?_,?_,?_,?_,?_,?_,?_,?_,?_⟩
 ·intro x L I;obtain⟨b',o',aa,ab,aK⟩:=h.fS x L I;exact⟨b',o',by rw[eO x L I];exact aa,ab,aK⟩
 ·intro x y fE gF fp I ah nm;rcases h.sep x y fE gF fp I ah nm with d|d|⟨f,l,⟨c,e,z,s,q⟩,⟨b1,bn,hT,cZ,dt⟩,ay,ct,eM⟩
  ·exact .inl (by rw[eO x fE I];exact d)
  ·exact .inr (.inl (by rw[eO y gF ah];exact d))
  ·exact .inr (.inr ⟨f,l,⟨c,e,z,s,by rw[eO x fE I];exact q⟩,⟨b1,bn,hT,cZ,by rw[eO y gF ah];exact dt⟩,by rw[a5];exact ay,ct,eM⟩)
 ·intro x L I;have:=h.lt x L I;omega
 ·intro x L I ar;exact h.own x L I (by omega)
 ·intro x L I ar dL;exact h.new x L I (by omega) (by rw[eO x L I] at dL;exact dL)
 ·intro g c e o f z s ar hm;have ky:g≠H.af:=by have:=h.kc;omega
  rw[ch,aq ky] at hm;exact h.si g c e o f z s (by omega) hm
 ·have:=h.kc;omega
 ·intro x c e f z s hm;rw[ch] at hm;split at hm
  ·injection hm with hm;rw[hm] at an;simp[jU] at an
  ·rw[cC];exact h.pX x c e f z s hm
 ·intro f l x ay I;rw[a5] at ay;obtain⟨a,d⟩:=h.kQ f l x ay I;refine⟨by omega,?_⟩;rw[ch,aq (by omega)];exact d
 ·intro f l ay;rw[a5] at ay;refine(h.tF f l ay).imp_of_mem ?_;intro x y I ah fp c e f1 z s b1 bn dj hT cZ q dt;have fe:=(h.kQ f l x ay I).1;have ld:=(h.kQ f l y ay ah).1;rw[ch,aq (by omega)] at q dt;exact fp c e _ z s b1 bn dj hT cZ q dt
theorem bR.fill(h:bR P B w0 μ H w){a:Nat}{b:fa}{o:Obj}{L:Loc}(hm:μ a=none)(cP:a<H.af)(ar:H.bq<=a)(kS:H.mem.get a=some b)(ax:L.r=w.heap.size)(ai:jm P μ L b o):
 bR P B w0 (μ.put a L) H (w.alloc o)/\Ext μ (μ.put a L):=by
 have g9:Ext μ (μ.put a L):=fun id bw I=>by
  by_cases e:id=a
  ·subst e;rw[hm] at I;cases I
  ·rw[bH.sU _ _ e];exact I
 have eO:∀x bw,(μ.put a L) x=some bw->x≠a->μ x=some bw:=fun x bw q b=>by rwa [bH.sU _ _ b] at q
 have MF:∀x bw,μ x=some bw->bw.r<w.heap.size:=fun x bw I=>by
  obtain⟨b',o',_,an,_⟩:=h.fS x bw I;rcases jo bw.r w.heap.size with ez|ez
  ·exact ez
  ·rw[rT ez] at an;cases an
 refine⟨⟨h.below.alloc h.nf o,?_,?_,?_,?_,?_,?_,?_,h.kc,h.pX,h.kQ,h.tF⟩,g9⟩
 ·intro k aH;have:=h.nf k aH;show k<(w.heap.push o).size;rw[Pr];omega
 ·intro x bw I;by_cases dg:x=a
  ·subst dg;rw[bH.jB] at I;injection I with I;subst I
   exact⟨b,o,kS,by rw[Be,ax];simp,ai.mono g9⟩
  ·have fe:=eO x bw I dg;obtain⟨b',o',aa,ab,aK⟩:=h.fS x bw fe;exact⟨b',o',aa,by rw[Be,aq (by have:=MF x bw fe;omega)];exact ab,aK.mono g9⟩
 ·intro x y fE gF fp I ah nm;by_cases dg:x=a
  ·subst dg;rw[bH.jB] at I;injection I with I;subst I
   have:=MF y gF (eO y gF ah (Ne.symm fp));omega
  ·by_cases kz:y=a
   ·subst kz;rw[bH.jB] at ah;injection ah with ah;subst ah
    have:=MF x fE (eO x fE I dg);omega
   ·exact h.sep x y fE gF fp (eO x fE I dg) (eO y gF ah kz) nm
 ·intro x bw I;by_cases dg:x=a
  ·omega
  ·exact h.lt x bw (eO x bw I dg)
 ·intro x bw I EA;have dg:x≠a:=by omega
  exact h.own x bw (eO x bw I dg) EA
 ·intro x bw I EA dL;by_cases dg:x=a
  ·subst dg;rw[bH.jB] at I;injection I with I;subst I
   rw[ax];exact fun q=>C1 _ (h.nf _ q)
  ·exact h.new x bw (eO x bw I dg) EA dL
 ·intro g c e o f z s EA MG;obtain⟨bw,bB⟩:=h.si g c e o f z s EA MG;exact⟨bw,g9 _ _ bB⟩
theorem Oi{cells cells':List Value}{elem:TypeId}(av:bN μ cells cells')(r:Nat):jm P μ ⟨r,cells.length,P.cellsOf elem⟩ (.row cells elem false 0 0 false) (.cells cells'.toArray elem):=
 ⟨rfl,by simp[av.1],rfl,dH _,fun _=>rfl,fun i v v' a b=>av.2 i v v' a (by simpa using b),fun off _ aa ab=>by simp at ab,fun _=>.inl rfl⟩
def iy.ok:iy->Bool
 |.z6 _ c=>decide (c<cR)
 |_=>true
theorem iy.rel{ef:iy}(h:ef.ok=true){a:Nat}{L:Loc}(hm:μ a=some L):bj μ (ef.at a) (ef.at L.r):=by
 cases ef with
 |ptr=>exact .ptr a 0 L hm
 |z6 l c=>exact .m5 a 0 l c L hm (B7 h)
 |map=>exact .map a L hm
def JR(P:Program)(μ:bH)(w:World)(s:Sem Value)(b:fa)(ef:iy):Prop:=
 ∃oM N aj,s.run P w=.ok (ef.at w.heap.size) (w.alloc oM)/\jm P μ ⟨w.heap.size,N,aj⟩ b oM/\jU (some b)=false/\ef.ok=true
theorem Qo{elem:TypeId}{v v':Value}{b:fa}{ef:iy}(ap:bj μ v v')(he:wI elem v=some (b,ef))(w:World):JR P μ w (Instr.box elem v') b ef:=by
 unfold wI at he;cases an:v.cells.toList.all eT with
 |false=>rw[an] at he;cases he
 |true=>
  rw[an,cc] at he;simp only[b6,da] at he;obtain⟨rfl,rfl⟩:=he;refine⟨_,_,_,?_,Oi ap.cells _,rfl,rfl⟩;simp[Instr.box,newVar,newRow,newObj,Sem.run,iy.at]
theorem Yh{t:TypeId}{l l' c b1:Value}{b:fa}{ef:iy}(ay:bj μ l l')(av:bj μ c b1)(he:Db P t l c=some (b,ef))(w:World):JR P μ w (Instr.makeSlice t l' b1) b ef:=by
 unfold Db at he;cases l with
 |int a' l=>
  cases c with
  |int bd c=>
   obtain rfl:=ay.pu;obtain rfl:=av.pu;cases hu:P.underlying t with
   |none=>rw[hu] at he;simp at he
   |some d=>
    rw[hu] at he;cases d with
    |slice elem=>
     simp only at he;cases bC:fO P elem with
     |none=>rw[bC] at he;simp at he
     |some z=>
      rw[bC] at he;cases h1:tp P elem with
      |none=>rw[h1] at he;simp at he
      |some hZ=>
       rw[h1] at he;cases al:eB P elem with
       |none=>rw[al] at he;simp at he
       |some aj=>
        rw[al] at he;simp only at he;cases p5:pt c 1000000 with
        |none=>rw[p5] at he;simp at he
        |some aP=>
         rw[p5] at he;cases de:pt l 1000000 with
         |none=>rw[de] at he;simp at he
         |some zG=>
          rw[de] at he;simp only at he;cases vq:(Nat.ble zG aP&&Nat.ble hZ 1000000&&Nat.beq z.cells.toList.length aj&&z.cells.toList.all eT&&plain z) with
          |false=>rw[vq] at he;simp at he
          |true=>
           rw[vq,cc] at he;simp only[fR] at vq;obtain⟨⟨⟨⟨aZ,aR⟩,bY⟩,ep⟩,gl⟩:=vq;have aZ:=hC aZ;have aR:=hC aR;have bY:=eK bY;obtain⟨rfl,jv⟩:=BM p5;obtain⟨rfl,oA⟩:=BM de;simp only[b6,da] at he;obtain⟨rfl,rfl⟩:=he;have rr:bN μ z.cells.toList z.cells.toList:=(oO gl).cells;have vo:bN μ (gp z.cells.toList aP) (gp z.cells.toList aP):=bN.Cm fun v ap=>by
               exact Gg (p:=fun v=>bj μ v v) ap (fun u hu=>by
                obtain⟨i,ak⟩:=lM.1 hu;exact rr.2 i u u ak ak)
           refine⟨_,_,_,?_,Oi vo _,rfl,o8 (by have:(1000000:Nat)<cR:=by decide
                                              omega)⟩
           obtain⟨i,ak,rfl⟩:=KC h1
           have qi:i.zero=some z:=by simpa[fO,ak] using bC
           have rp:i.size=aj:=by simpa[eB,ak] using al
           have hmul:i.bytes*aP<=1000000*1000000:=PY aR jv;have lX:=Gh z.cells.toList aP;have gK:=run_make (P:=P) w t elem i z hu ak qi a' bd (zG:Int) (aP:Int) (by omega) (by omega) (by
               have:(i.bytes:Int)*(aP:Int)=((i.bytes*aP:Nat):Int):=by simp
               rw[this];omega) (by omega)
           rw[gK];simp only[ea,iy.at];congr 3
           rw[<-lX];simp[madeCells,rp,<-bY]
    |_=>simp at he
  |_=>simp at he
 |_=>simp at he
theorem Yf{t:TypeId}{len:Nat}{parts l3:List (Nat×Value)}{b:fa}{ef:iy}(au:uQ μ parts l3)(he:Da P t len parts=some (b,ef))(w:World):JR P μ w (Instr.buildSlice t len l3.toArray) b ef:=by
 unfold Da at he;cases hu:P.underlying t with
 |none=>rw[hu] at he;simp at he
 |some d=>
  rw[hu] at he;cases d with
  |slice elem=>
   simp only at he;cases al:eB P elem with
   |none=>rw[al] at he;simp at he
   |some aj=>
    rw[al] at he;cases bC:fO P elem with
    |none=>rw[bC] at he;simp at he
    |some z=>
     rw[bC] at he;simp only at he;cases av:(Nat.ble len 100000&&Nat.ble (len*aj) 100000&&plain z&&Nat.beq z.cells.toList.length aj) with
     |false=>rw[av] at he;simp at he
     |true=>
      rw[av,cc] at he;simp only[fR] at av;obtain⟨⟨⟨mw,aZ⟩,aR⟩,bY⟩:=av;have mw:=hC mw;have aZ:=hC aZ;have bY:=eK bY;cases aw:mQ (fun i=>some (i*aj,aj)) (gp z.cells.toList len) parts with
      |none=>rw[aw] at he;simp at he
      |some cells=>
       rw[aw] at he;simp only at he;cases an:cells.all eT with
       |false=>rw[an] at he;simp at he
       |true=>
        rw[an,cc] at he;simp only[b6,da] at he;obtain⟨rfl,rfl⟩:=he;have rr:bN μ z.cells.toList z.cells.toList:=(oO aR).cells;have vo:bN μ (gp z.cells.toList len) (gp z.cells.toList len):=bN.Cm fun v ap=>
         Gg (p:=fun v=>bj μ v v) ap (fun u hu=>by
           obtain⟨i,ak⟩:=lM.1 hu;exact rr.2 i u u ak ak)
        obtain⟨b7,a,b⟩:=Hq au vo aw
        refine⟨_,_,_,?_,Oi b _,rfl,o8 (by have:(100000:Nat)<cR:=by decide
                                          omega)⟩
        have lX:=Gh z.cells.toList len;have aeQ:z.cells.size=aj:=by simpa using bY
        have Ma:¬(16777216<len*aj):=by omega
        rw[bY] at lX;simp only[Xq] at lX;by_cases bt:len*aj=0
        ·have sx:gp z.cells.toList len=[]:=qL.1 (by rw[Ph,bY];exact bt)
         rw[sx] at a;have bA:Instr.fill (fun i=>some (i*aj,aj)) (Array.map (fun _=>(default:Value)) (Array.range 0)) l3=some b7.toArray:=by
          have kP:Array.map (fun _:Nat=>(default:Value)) (Array.range 0)=#[]:=by simp
          rw[kP];exact a
         simp[Instr.buildSlice,eP hu,km al,bt,bA,newRow,newObj,Sem.run,iy.at]
        ·have bA:Instr.fill (fun i=>some (i*aj,aj)) ((Array.range (len*aj)).map fun i=>z.cells[i % z.cells.size]!) l3=some b7.toArray:=by rw[lX];exact a
         simp[Instr.buildSlice,eP hu,km al,Ma,bt,uE bC,bA,newRow,newObj,Sem.run,iy.at]
  |_=>simp at he
theorem I1{T:aX Value}{n:Nat}{tmps:Array Value}(aN:jK μ T n tmps){x:Operand}{v:Value}(he:py T x=some v):bj μ v (c' tmps x):=by
 cases x with
 |tmp t=>exact aN.2 t v he
 |const c=>
  have he:(bif plain c then some c else none)=some v:=he;cases au:plain c with
  |false=>rw[au] at he;simp at he
  |true=>rw[au] at he;simp at he;subst he;exact oO au
 |global g=>cases he
 |func f=>
  have he:some (Value.func (.func f) #[] #[])=some v:=he;injection he with he;subst he
  exact .func _ _ _ _ _ rfl rfl rfl (fun i v v' q=>by simp at q) (fun i v v' q=>by simp at q)
theorem ag8{T:aX Value}{n:Nat}{tmps:Array Value}(aN:jK μ T n tmps):∀{l:List (Nat×Operand)} {dx:List (Nat×Value)},rI T l=some dx->uQ μ dx (l.map fun(i,x)=>(i,c' tmps x)):=by
 intro l;induction l with
 |nil=>intro dx h;simp[rI] at h;subst h;exact⟨rfl,fun i p hK q=>by simp at q⟩
 |cons x l aG=>
  intro dx h;obtain⟨i,x⟩:=x;simp only[rI] at h;cases aa:py T x with
  |none=>rw[aa] at h;cases h
  |some v=>
   rw[aa] at h;cases ab:rI T l with
   |none=>rw[ab] at h;cases h
   |some r=>
    rw[ab] at h;injection h with h;subst h
    have:=aG ab;refine⟨by simp[this.1],fun j p hK q dt=>?_⟩;cases j with
    |zero=>simp at q dt;subst q;subst dt;exact⟨rfl,I1 aN aa⟩
    |succ j=>exact this.2 j p hK (by simpa using q) (by simpa using dt)
theorem Uf{t:TypeId}{r:Operand}{b:fa}{ef:iy}(he:Fh P t r=some (b,ef)):b=.dead/\ef=.map/\r=.const (.int .i64 (.ofNat 0))/\∃key el,P.underlying t=some (.map key el):=by
 unfold Fh at he;split at he
 ·cases hu:P.underlying t with
  |none=>rw[hu] at he;cases he
  |some d=>
   rw[hu] at he;cases d with
   |map a c=>
    simp only[b6,da] at he;exact⟨he.1.symm,he.2.symm,rfl,a,c,rfl⟩
   |_=>cases he
 ·cases he
theorem Yi{T:aX Value}{n:Nat}{tmps:Array Value}{o:Oper}{b:fa}{ef:iy}(aN:jK μ T n tmps)(he:mg P T o.op=some (b,ef))(w:World):
 ∃oM N aj,(execOp (c' tmps) o).run P w=.ok (.value (ef.at w.heap.size)) (w.alloc oM)/\jm P μ ⟨w.heap.size,N,aj⟩ b oM/\jU (some b)=false/\ef.ok=true:=by
 cases an:o.op<;>rw[an] at he<;>simp only[mg] at he
 case alloc elem=>
  cases bC:fO P elem with
  |none=>rw[bC] at he;cases he
  |some z=>
   rw[bC] at he;cases au:plain z with
   |false=>simp only[au] at he;cases he
   |true=>
    simp only[au,cc] at he;obtain⟨oM,N,aj,bl,bF,bO,b3⟩:=Qo (P:=P) (oO (μ:=μ) au) he w;refine⟨oM,N,aj,?_,bF,bO,b3⟩;have:(Instr.alloc elem true (.tuple #[])).run P w=.ok (ef.at w.heap.size) (w.alloc oM):=by simpa[Instr.alloc,Instr.box,uE bC] using bl
    simp[execOp,an,this]
 case box elem x=>
  cases I:py T x with
  |none=>rw[I] at he;cases he
  |some v=>
   rw[I] at he;obtain⟨oM,N,aj,bl,bF,bO,b3⟩:=Qo (P:=P) (I1 aN I) he w;exact⟨oM,N,aj,by simp[execOp,an,bl],bF,bO,b3⟩
 case buildSlice t len parts=>
  cases I:rI T parts.toList with
  |none=>rw[I] at he;cases he
  |some dx=>
   rw[I] at he;obtain⟨oM,N,aj,bl,bF,bO,b3⟩:=Yf (P:=P) (ag8 aN I) he w;have aD:(parts.toList.map fun(i,x)=>(i,c' tmps x)).toArray=parts.map fun(i,x)=>(i,c' tmps x):=by apply qI;simp
   rw[aD] at bl;exact⟨oM,N,aj,by simp[execOp,an,bl],bF,bO,b3⟩
 case makeMap t r=>
  cases r with
  |some r=>
   obtain⟨rfl,rfl,rfl,key,el,hu⟩:=Uf (show Fh P t r=some (b,ef) from he);exact⟨.map #[] 0,0,0,by simp[execOp,an,Instr.makeMap,newObj,Sem.run,iy.at,eP hu,c',asInt,asIntOf],trivial,rfl,rfl⟩
  |none=>
   simp only[b6,da] at he;obtain⟨rfl,rfl⟩:=he;exact⟨.map #[] 0,0,0,by simp[execOp,an,Instr.makeMap,newObj,Sem.run,iy.at],ym.nil _,rfl,rfl⟩
 case makeSlice t l c=>
  cases aa:py T l with
  |none=>rw[aa] at he;cases he
  |some lv=>
   cases ab:py T c with
   |none=>rw[aa,ab] at he;cases he
   |some eY=>
    rw[aa,ab] at he;obtain⟨oM,N,aj,bl,bF,bO,b3⟩:=Yh (P:=P) (I1 aN aa) (I1 aN ab) he w;exact⟨oM,N,aj,by simp[execOp,an,bl],bF,bO,b3⟩
 all_goals cases he
end
end
end Go.Cre
namespace Go.Cre
noncomputable section
open Go.RowKit
theorem x8(a b i:Nat):Nat.testBit (Nat.lor a b) i=(a.testBit i||b.testBit i):=Nat.testBit_or a b i
theorem Jz(a b i:Nat):Nat.testBit (Nat.land a b) i=(a.testBit i&&b.testBit i):=Nat.testBit_and a b i
theorem JA(i j:Nat):Nat.testBit (Nat.pow 2 i) j=decide (i=j):=Nat.testBit_two_pow (n:=i) (m:=j)
theorem k0{C i j:Nat}:Nat.testBit (Nat.lor C (Nat.pow 2 i)) j=true↔Nat.testBit C j=true\/i=j:=by
 rw[x8,JA];simp
theorem OG{a b:Nat}(h:sub a b=true){i:Nat}(ak:a.testBit i=true):b.testBit i=true:=by
 have h:=eK h;rw[<-h,Jz] at ak;simp at ak;exact ak.2
theorem Rv{l:List Edge}{i:Nat}:(AS l).testBit i=true↔∃e∈l,Region.binds .any e=true/\e.on=i:=by
 induction l with
 |nil=>simp[AS]
 |cons e l aG=>
  simp only[AS];cases ai:Region.binds .any e with
  |false=>simp[aG,ai]
  |true=>rw[cc,x8,JA];simp[aG,ai]
theorem afE{l:List Nat}{i:Nat}:(zI l).testBit i=true↔i∈l:=by
 induction l with
 |nil=>simp[zI]
 |cons e l aG=>
  simp only[zI];rw[x8,JA,wo,aG,ft,mN];exact⟨fun q=>q.imp Eq.symm id,fun q=>q.imp Eq.symm id⟩
theorem ae8{C:Nat}:∀{n:Nat},It C n=true->∀i,i<n->C.testBit i=true:=by
 intro n;induction n with
 |zero=>intro _ i ak;omega
 |succ n aG=>
  intro h i ak;simp only[It,fR] at h;by_cases e:i=n
  ·subst e;exact h.1
  ·exact aG h.2 i (by omega)
theorem agA{C i:Nat}:∀{l:List Oper} {k:Nat},only C i l k=true->∀j o,l[j]?=some o->C.testBit (k+j)=true\/k+j=i\/sub (Oper.fP o) C=false:=by
 intro l;induction l with
 |nil=>intro k _ j o h;simp at h
 |cons a l aG=>
  intro k h j o an;simp only[only,fR,wo,pJ] at h;cases j with
  |zero=>
   simp at an;subst an;rcases h.1 with(q|q)|q
   ·exact .inl q
   ·exact .inr (.inl (eK q))
   ·exact .inr (.inr q)
  |succ j=>
   have:=aG h.2 j o (by simpa using an);have e:k+1+j=k+(j+1):=by omega
   rw[e] at this;exact this
theorem Yd{ca cq C:Nat}:∀{l:List Nat},GR ca cq C l=true->∀i∈l,C.testBit i=true/\cq.testBit i=false:=by
 intro l;induction l with
 |nil=>intro _ i ak;simp at ak
 |cons a l aG=>
  intro h i ak;simp only[GR,fR,pJ] at h;rcases ft.1 ak with rfl|ak
  ·exact h.1
  ·exact aG h.2 i ak
theorem Zv{ops:List Oper}{D:Nat->Bool}(aS:∀i o j,D i=true->ops[i]?=some o->(Oper.fP o).testBit j=true->D j=true):∀{n K:Nat},(∀i,K.testBit i=true->D i=true)->∀i,(ts ops n K).testBit i=true->D i=true:=by
 intro n;induction n with
 |zero=>intro K h i ak;exact h i ak
 |succ n aG=>
  intro K h i ak;simp only[ts] at ak;refine aG (fun j aU=>?_) i ak;cases ai:K.testBit n with
  |false=>rw[ai] at aU;exact h j aU
  |true=>
   rw[ai,cc] at aU;rw[kk] at aU;cases an:ops[n]? with
   |none=>rw[an] at aU;exact h j aU
   |some o=>
    rw[an] at aU;simp only at aU;rw[x8] at aU;simp only[wo] at aU;rcases aU with q|q
    ·exact h j q
    ·exact aS n o j (h n ai) an q
theorem Yg{l:List Oper}:∀{k j:Nat} {o:Oper},l[j]?=some o->xC o.op=true->(wJ l k).testBit (k+j)=true:=by
 induction l with
 |nil=>intro k j o h;simp at h
 |cons a l aG=>
  intro k j o an aW;simp only[wJ];rw[x8];cases j with
  |zero=>simp at an;subst an;rw[aW,cc,JA];simp
  |succ j=>
   have:=aG (k:=k+1) (by simpa using an) aW;have e:k+1+j=k+(j+1):=by omega
   rw[e] at this;rw[this];simp
structure uR (ops:List Oper) (ca:Nat):Prop where
 dst:∀(i j:Nat) a b d,ops[i]?=some a->ops[j]?=some b->i≠j->a.dst=some d->b.dst≠some d
 look:∀(i j:Nat) a b d,ops[i]?=some a->ops[j]?=some b->a.dst=some d->d∈looks ops b->(Oper.fP b).testBit i=true\/(ca.testBit i=true/\(i=j\/(Oper.fP a).testBit j=true))
 down:∀(i:Nat) a j,ops[i]?=some a->(Oper.fP a).testBit j=true->j<i
 cv:∀(i:Nat) a,ops[i]?=some a->ca.testBit i=false->BO a.op=false
theorem ag5{ops:List Oper}{ca i:Nat}{a:Oper}:∀{l:List Oper} {k:Nat},I3 ops ca i a l k=true->∀j b,l[j]?=some b->Cb ops ca i (k+j) a b=true:=by
 intro l;induction l with
 |nil=>intro k _ j b h;simp at h
 |cons c l aG=>
  intro k h j b ai;simp only[I3,fR] at h;cases j with
  |zero=>simp at ai;subst ai;exact h.1
  |succ j=>
   have:=aG h.2 j b (by simpa using ai);have e:k+1+j=k+(j+1):=by omega
   rw[e] at this;exact this
theorem NV{ops:List Oper}{ca:Nat}:∀{l:List Oper} {k:Nat},FH ops ca l k=true->∀i a,l[i]?=some a->
 (∀j b,ops[j]?=some b->Cb ops ca (k+i) j a b=true)/\(Oper.fP a)<2 ^ (k+i)/\(ca.testBit (k+i)=true\/BO a.op=false):=by
 intro l;induction l with
 |nil=>intro k _ i a h;simp at h
 |cons c l aG=>
  intro k h i a aW;simp only[FH,fR,wo,pJ] at h;cases i with
  |zero=>
   simp at aW;subst aW;refine⟨fun j b ai=>?_,hC h.1.1.2,h.1.2⟩;have:=ag5 h.1.1.1 j b ai;simpa using this
  |succ i=>
   have:=aG h.2 i a (by simpa using aW);have e:k+1+i=k+(i+1):=by omega
   rw[e] at this;exact this
theorem ajd{ops:List Oper}{ca:Nat}(h:FH ops ca ops 0=true):uR ops ca:=by
 have au:∀(i j:Nat) a b,ops[i]?=some a->ops[j]?=some b->Cb ops ca i j a b=true:=fun i j a b aW ai=>by
  have:=(NV h i a aW).1 j b ai;simpa using this
 refine⟨fun i j a b d aW ai Bh aS vt=>?_,fun i j a b d aW ai aS ay=>?_,fun i a j aW aU=>?_,fun i a aW av=>?_⟩
 ·have:=au i j a b aW ai;simp only[Cb,fR,wo,pJ] at this;rcases this.1 with q|q
  ·exact Bh (eK q)
  ·simp[VT,aS,vt] at q
 ·have:=au i j a b aW ai;simp only[Cb,fR,wo,pJ] at this;rcases this.2 with(q|q)|q
  ·exfalso;simp only[Nv,aS] at q;rw[PF] at q;exact q d ay (by simp)
  ·exact .inl q
  ·exact .inr ⟨q.1,q.2.imp (fun x=>eK x) id⟩
 ·have ab:=(NV h i a aW).2.1;rw[lN] at ab;rcases jo j i with q|q
  ·exact q
  ·have aK:(Oper.fP a)<2 ^ j:=uO ab (Nat.pow_le_pow_right (by omega) q);rw[Nat.testBit_lt_two_pow aK] at aU;cases aU
 ·have ab:=(NV h i a aW).2.2;rw[lN] at ab;rcases ab with q|q
  ·rw[q] at av;cases av
  ·exact q
theorem Qp{P:Program}{T:aX Value}{op:Op}{b:fa}{ef:iy}(he:mg P T op=some (b,ef)):jU (some b)=false:=by
 have box:∀{elem v},wI elem v=some (b,ef)->jU (some b)=false:=fun{elem v} q=>by
  unfold wI at q;cases an:v.cells.toList.all eT with
  |false=>rw[an] at q;cases q
  |true=>rw[an,cc] at q;simp only[b6,da] at q;obtain⟨rfl,rfl⟩:=q;rfl
 have fin:∀{c:Bool} {cells:List Value} {elem:TypeId} {k:iy},(bif c then some (fa.row cells elem false 0 0 false,k) else none)=some (b,ef)->jU (some b)=false:=fun{c cells elem k} q=>by
  cases c with
  |false=>cases q
  |true=>simp only[cc,b6,da] at q;obtain⟨rfl,rfl⟩:=q;rfl
 cases op<;>simp only[mg] at he
 case alloc elem=>
  split at he
  ·rename_i z _;cases au:plain z with
   |false=>rw[au] at he;cases he
   |true=>rw[au,cc] at he;exact box he
  ·cases he
 case box elem x=>
  split at he
  ·exact box he
  ·cases he
 case buildSlice t len dx=>
  split at he
  ·unfold Da at he;split at he
   ·split at he
    ·rename_i aj z _ _;cases av:(Nat.ble len 100000&&Nat.ble (len*aj) 100000&&plain z&&Nat.beq z.cells.toList.length aj) with
     |false=>rw[av] at he;cases he
     |true=>
      rw[av,cc] at he;split at he
      ·exact fin he
      ·cases he
    ·cases he
   ·cases he
  ·cases he
 case makeMap t r=>
  cases r with
  |some r=>obtain⟨rfl,rfl,_⟩:=Uf (show Fh P t r=some (b,ef) from he);rfl
  |none=>simp only[b6,da] at he;obtain⟨rfl,rfl⟩:=he;rfl
 case makeSlice t l c=>
  split at he
  ·unfold Db at he;split at he
   ·split at he
    ·split at he
     ·exact fin he
     ·cases he
    ·cases he
   ·cases he
  ·cases he
 all_goals cases he
end
end Go.Cre

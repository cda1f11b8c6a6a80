/- A part of the proof of TableMetric. -/
import Derived.Test.YtmmfodofkbmfnaaGreatDoorCal
set_option linter.unusedVariables false
set_option linter.unusedSimpArgs false
namespace Go.Cre
noncomputable section
open Go.RowKit
def aL.eN {α:Type}:aL α->(Nat->Bool)->aL α
 |.leaf,_=>.leaf
 |.node v l r,p=>.node (if p 0 then v else none) (l.eN fun k=>p (2*k+1)) (r.eN fun k=>p (2*k+2))
theorem aL.Ej{α:Type}(t:aL α):∀(p:Nat->Bool) (n:Nat),(t.eN p).get n=if p n then t.get n else none:=by
 induction t with
 |leaf=>intro p n;simp[aL.eN,aL.JM]
 |node v l r qW qX=>
  intro p n;cases n with
  |zero=>simp[aL.eN,aL.yj]
  |succ m=>
   simp only[aL.eN,aL.mw];by_cases h:m % 2=0
   ·rw[bs h,bs h,qW];have:2*(m / 2)+1=m+1:=by omega
    rw[this]
   ·rw[a1 h,a1 h,qX];have:2*(m / 2)+2=m+1:=by omega
    rw[this]
theorem aL.MF{α:Type}{a:α}{t:aL α}:∀{ix:aL α} {n:Nat} (p:Nat->Bool),aL.put a t n=some ix->∃Y',aL.put a (t.eN p) n=some Y':=by
 induction t with
 |leaf=>
  intro ix n p h;exact⟨ix,h⟩
 |node v l r qW qX=>
  intro ix n p h;cases n with
  |zero=>exact⟨_,rfl⟩
  |succ m=>
   simp only[aL.eN];rw[aL.Cw] at h ⊢;by_cases hm:m % 2=0
   ·rw[bs hm] at h ⊢;cases aw:aL.put a l (m / 2) with
    |none=>rw[aw] at h;cases h
    |some l'=>obtain⟨B2,e⟩:=qW (fun k=>p (2*k+1)) aw;rw[e];exact⟨_,rfl⟩
   ·rw[a1 hm] at h ⊢;cases ap:aL.put a r (m / 2) with
    |none=>rw[ap] at h;cases h
    |some cA=>obtain⟨acH,e⟩:=qX (fun k=>p (2*k+2)) ap;rw[e];exact⟨_,rfl⟩
def aO.only (S:aO)(p:Nat->Bool):aO:=⟨S.T.eN p,S.n,S.ds,S.bu,S.a7,S.b3⟩
theorem aO.put_eq{S aB:aO}{dst:Option Tmp}{v:Value}(he:S.put dst v=some aB):
 aB.n=S.n/\aB.ds=S.ds/\aB.bu=S.bu/\aB.a7=S.a7/\aB.b3=S.b3/\∀t,aB.T.get t=if dst=some t then some v else S.T.get t:=by
 cases dst with
 |none=>
  have he:some S=some aB:=he;injection he with he;subst he
  exact⟨rfl,rfl,rfl,rfl,rfl,fun t=>by simp⟩
 |some d=>
  obtain⟨T,n,eD,bu,a7,b3⟩:=S;have he:Bool.rec (motive:=fun _=>Option aO) none (aO.oN n eD bu a7 b3 (aL.put v T d)) (Nat.ble (Nat.succ d) n)=some aB:=he;cases af:Nat.ble (Nat.succ d) n with
  |false=>rw[af] at he;cases he
  |true=>
   rw[af] at he;have he:aO.oN n eD bu a7 b3 (aL.put v T d)=some aB:=he;cases ao:aL.put v T d with
   |none=>rw[ao] at he;cases he
   |some dr=>
    rw[ao] at he;have he:some (aO.mk dr n eD bu a7 b3)=some aB:=he;injection he with he;subst he
    refine⟨rfl,rfl,rfl,rfl,rfl,fun t=>?_⟩;show dr.get t=_;rw[aL.get_put ao];by_cases h:t=d
    ·subst h;simp
    ·rw[a1 h,a1 (fun q=>h (by injection q with q;exact q.symm))]
theorem aO.XK{S aB:aO}{dst:Option Tmp}{v:Value}(p:Nat->Bool)(he:S.put dst v=some aB):∃k1,(S.only p).put dst v=some k1:=by
 cases dst with
 |none=>exact⟨_,rfl⟩
 |some d=>
  obtain⟨T,n,eD,bu,a7,b3⟩:=S;have he:Bool.rec (motive:=fun _=>Option aO) none (aO.oN n eD bu a7 b3 (aL.put v T d)) (Nat.ble (Nat.succ d) n)=some aB:=he;show ∃k1,Bool.rec (motive:=fun _=>Option aO) none (aO.oN n eD bu a7 b3 (aL.put v (T.eN p) d)) (Nat.ble (Nat.succ d) n)=some k1;cases af:Nat.ble (Nat.succ d) n with
  |false=>rw[af] at he;cases he
  |true=>
   rw[af] at he;have he:aO.oN n eD bu a7 b3 (aL.put v T d)=some aB:=he;cases ao:aL.put v T d with
   |none=>rw[ao] at he;cases he
   |some dr=>
    obtain⟨aaJ,e⟩:=aL.MF p ao;rw[e];exact⟨_,rfl⟩
section
variable {P:Program}{H:ah}{T dr:aL Value}{ops:List Oper}{o:Oper}
theorem LF{t:Tmp}(h:Operand.tmp t∈o.op.operands):t∈looks ops o:=by
 unfold looks;exact rC _ (List.mem_filterMap.2 ⟨.tmp t,by simpa using h,rfl⟩)
theorem Cq(h:∀t∈looks ops o,dr.get t=T.get t):∀x∈o.op.operands,aR dr H x=aR T H x:=fun x j=>by
 cases x with
 |tmp t=>exact h t (LF j)
 |const c=>rfl
 |global g=>rfl
 |func f=>rfl
theorem Xd(h:∀t∈looks ops o,dr.get t=T.get t):∀x∈o.op.operands,l5 dr x=l5 T x:=fun x j=>by
 cases x with
 |tmp t=>exact h t (LF j)
 |const c=>rfl
 |global g=>rfl
 |func f=>rfl
theorem ob(h:∀t∈looks ops o,dr.get t=T.get t):eI ops dr o=eI ops T o:=by
 unfold eI;cases ar:o.guard with
 |none=>rfl
 |some q=>
  obtain⟨aa,want⟩:=q;show po ops dr (aa,want)=po ops T (aa,want);unfold po;simp only
  cases aE:nth ops aa with
  |none=>rfl
  |some p=>
   simp only
   cases ax:p.dst with
   |none=>rfl
   |some d=>
    simp only
    rw[h d (by unfold looks;rw[ar];simp only[aE,ax];exact eU _ (by simp))]
theorem Xm:∀{l:List (Nat×Operand)},(∀x∈l.map (·.2),l5 dr x=l5 T x)->pT dr l=pT T l:=by
 intro l;induction l with
 |nil=>intro _;rfl
 |cons x l aN=>
  intro h;obtain⟨i,x⟩:=x;simp only[pT];rw[h x (by simp),aN fun y aC=>h y (by simp at aC ⊢;exact .inr aC)]
theorem Ds(h:∀t∈looks ops o,dr.get t=T.get t):kh P dr o.op=kh P T o.op:=by
 have h:=Xd h;cases ae:o.op<;>rw[ae] at h<;>simp only[Op.operands] at h<;>simp only[kh]
 case box e x=>rw[h x (by simp)]
 case buildSlice t n ps=>rw[Xm fun x j=>h x (by simpa using j)]
 case makeSlice t l c=>rw[h l (by simp),h c (by simp)]
 case makeMap t r=>cases r<;>rfl
end
theorem Ph{f:Value->Value->Bool}(ay:∀x y,f x y=true->x=y):∀{l m:List Value},iU f l m=true->l=m:=by
 intro l;induction l with
 |nil=>intro m h;cases m with
  |nil=>rfl
  |cons=>cases h
 |cons x l aN=>intro m h;cases m with
  |nil=>cases h
  |cons y m=>
   simp only[iU,eT] at h;rw[ay x y h.1,aN h.2]
theorem Iv{a b:Option Addr}(h:addrEq a b=true):a=b:=by
 unfold addrEq at h;split at h
 ·rfl
 ·simp only[eT] at h;rw[dB h.1,dB h.2]
 ·rfl
 ·cases h
theorem Z0:∀{n:Nat} {a b:Value},ee n a b=true->a=b:=by
 intro n;induction n with
 |zero=>intro a b h;cases h
 |succ n aN=>
  intro a b h;have arr:∀{x y:Array Value},iU (ee n) x.toList y.toList=true->x=y:=fun q=>mZ (Ph (fun _ _ z=>aN z) q);unfold ee at h;split at h
  ·rename_i a b;cases a<;>cases b<;>first|rfl|cases h
  ·simp only[eT] at h;rw[Ln h.1];have:=h.2;rw[wx] at this;rw[eq_of_beq this]
  ·rename_i a b;have:=Cl h;obtain⟨⟨x⟩⟩:=a;obtain⟨⟨y⟩⟩:=b;simp at this;rw[this]
  ·rw[Iv h]
  ·simp only[eT] at h;rw[Iv h.1.1,dB h.1.2,dB h.2]
  ·rename_i a b;cases a<;>cases b<;>simp only[L2] at h<;>first|rfl|cases h|(rw[dB h])
  ·rfl
  ·rfl
  ·simp only[eT] at h;rw[dB h.1,aN h.2]
  ·rw[arr h]
  ·rw[arr h]
  ·simp only[eT] at h;rename_i f a b g c d;have:f=g:=by
    have:=h.1.1;unfold JA at this;split at this
    ·rw[dB this]
    ·cases this
   rw[this,arr h.1.2,arr h.2]
  ·cases h
section
variable {P:Program}{B:Nat->Prop}{w0 w:World}{μ:bm}{H H':ah}
theorem bz.Xq(h:bz P B w0 μ H w){a:Nat}{b:ef}(aE:H.new b=some (a,H'))(ae:hM (some b)=false):bz P B w0 μ H' w:=by
 obtain⟨rfl,aA,aW,cr,dU,b5⟩:=ah.l3 aE;have c3:∀x L,μ x=some L->H'.mem.get x=H.mem.get x:=fun x L j=>by
  have:=h.lt x L j;rw[b5,a1 (by omega)]
 refine⟨h.below,h.kj,?_,?_,?_,?_,?_,?_,?_,?_,?_,?_⟩
 ·intro x L j;obtain⟨b',o',U,ab,aV⟩:=h.eG x L j;exact⟨b',o',by rw[c3 x L j];exact U,ab,aV⟩
 ·intro x y fL fU dy j aC ko;rcases h.sep x y fL fU dy j aC ko with d|d|⟨f,l,⟨c,e,z,s,q⟩,⟨bo,bl,fv,c1,cR⟩,aw,cM,gz⟩
  ·exact .inl (by rw[c3 x fL j];exact d)
  ·exact .inr (.inl (by rw[c3 y fU aC];exact d))
  ·exact .inr (.inr ⟨f,l,⟨c,e,z,s,by rw[c3 x fL j];exact q⟩,⟨bo,bl,fv,c1,by rw[c3 y fU aC];exact cR⟩,by rw[aW];exact aw,cM,gz⟩)
 ·intro x L j;have:=h.lt x L j;omega
 ·intro x L j ar;exact h.own x L j (by omega)
 ·intro x L j ar dk;exact h.new x L j (by omega) (by rw[c3 x L j] at dk;exact dk)
 ·intro g c e o f z s ar hm;have tV:g≠H.av:=by have:=h.hV;omega
  rw[b5,a1 tV] at hm;exact h.oa g c e o f z s (by omega) hm
 ·have:=h.hV;omega
 ·intro x c e f z s hm;rw[b5] at hm;split at hm
  ·injection hm with hm;rw[hm] at ae;simp[hM] at ae
  ·rw[cr];exact h.mu x c e f z s hm
 ·intro f l x aw j;rw[aW] at aw;obtain⟨a,d⟩:=h.im f l x aw j;refine⟨by omega,?_⟩;rw[b5,a1 (by omega)];exact d
 ·intro f l aw;rw[aW] at aw;refine(h.pk f l aw).imp_of_mem ?_;intro x y j aC dy c e f1 z s bo bl cd fv c1 q cR;have gr:=(h.im f l x aw j).1;have FO:=(h.im f l y aw aC).1;rw[b5,a1 (by omega)] at q cR;exact dy c e _ z s bo bl cd fv c1 q cR
theorem bz.fill(h:bz P B w0 μ H w){a:Nat}{b:ef}{o:Obj}{L:Loc}(hm:μ a=none)(cx:a<H.av)(ar:H.bf<=a)(gf:H.mem.get a=some b)(ap:L.r=w.heap.size)(af:hl P μ L b o):
 bz P B w0 (μ.put a L) H (w.alloc o)/\Ext μ (μ.put a L):=by
 have hX:Ext μ (μ.put a L):=fun id bn j=>by
  by_cases e:id=a
  ·subst e;rw[hm] at j;cases j
  ·rw[bm.oP _ _ e];exact j
 have c3:∀x bn,(μ.put a L) x=some bn->x≠a->μ x=some bn:=fun x bn q b=>by rwa [bm.oP _ _ b] at q
 have E7:∀x bn,μ x=some bn->bn.r<w.heap.size:=fun x bn j=>by
  obtain⟨b',o',_,ae,_⟩:=h.eG x bn j;rcases gX bn.r w.heap.size with cF|cF
  ·exact cF
  ·rw[nS cF] at ae;cases ae
 refine⟨⟨h.below.alloc h.kj o,?_,?_,?_,?_,?_,?_,?_,h.hV,h.mu,h.im,h.pk⟩,hX⟩
 ·intro k hk;have:=h.kj k hk;show k<(w.heap.push o).size;rw[HA];omega
 ·intro x bn j;by_cases cG:x=a
  ·subst cG;rw[bm.hC] at j;injection j with j;subst j
   exact⟨b,o,gf,by rw[vV,ap];simp,af.mono hX⟩
  ·have gr:=c3 x bn j cG;obtain⟨b',o',U,ab,aV⟩:=h.eG x bn gr;exact⟨b',o',U,by rw[vV,a1 (by have:=E7 x bn gr;omega)];exact ab,aV.mono hX⟩
 ·intro x y fL fU dy j aC ko;by_cases cG:x=a
  ·subst cG;rw[bm.hC] at j;injection j with j;subst j
   have:=E7 y fU (c3 y fU aC (Ne.symm dy));omega
  ·by_cases ic:y=a
   ·subst ic;rw[bm.hC] at aC;injection aC with aC;subst aC
    have:=E7 x fL (c3 x fL j cG);omega
   ·exact h.sep x y fL fU dy (c3 x fL j cG) (c3 y fU aC ic) ko
 ·intro x bn j;by_cases cG:x=a
  ·omega
  ·exact h.lt x bn (c3 x bn j cG)
 ·intro x bn j yJ;have cG:x≠a:=by omega
  exact h.own x bn (c3 x bn j cG) yJ
 ·intro x bn j yJ dk;by_cases cG:x=a
  ·subst cG;rw[bm.hC] at j;injection j with j;subst j
   rw[ap];exact fun q=>tg _ (h.kj _ q)
  ·exact h.new x bn (c3 x bn j cG) yJ dk
 ·intro g c e o f z s yJ E8;obtain⟨bn,bD⟩:=h.oa g c e o f z s yJ E8;exact⟨bn,hX _ _ bD⟩
theorem GN{cells cells':List Value}{elem:TypeId}(aF:bp μ cells cells')(r:Nat):hl P μ ⟨r,cells.length,P.cellsOf elem⟩ (.row cells elem false 0 0 false) (.cells cells'.toArray elem):=
 ⟨rfl,by simp[aF.1],rfl,c9 _,fun _=>rfl,fun i v v' a b=>aF.2 i v v' a (by simpa using b),fun off _ U ab=>by simp at ab,fun _=>.inl rfl⟩
def gO.ok:gO->Bool
 |.w5 _ c=>decide (c<cf)
 |_=>true
theorem gO.rel{dm:gO}(h:dm.ok=true){a:Nat}{L:Loc}(hm:μ a=some L):a3 μ (dm.at a) (dm.at L.r):=by
 cases dm with
 |ptr=>exact .ptr a 0 L hm
 |w5 l c=>exact .kb a 0 l c L hm (Cl h)
 |map=>exact .map a L hm
def C2(P:Program)(μ:bm)(w:World)(s:Sem Value)(b:ef)(dm:gO):Prop:=
 ∃lh N sz,s.run P w=.ok (dm.at w.heap.size) (w.alloc lh)/\hl P μ ⟨w.heap.size,N,sz⟩ b lh/\hM (some b)=false/\dm.ok=true
theorem IB{elem:TypeId}{v v':Value}{b:ef}{dm:gO}(aD:a3 μ v v')(he:tk elem v=some (b,dm))(w:World):C2 P μ w (Instr.box elem v') b dm:=by
 unfold tk at he;cases ae:v.cells.toList.all dY with
 |false=>rw[ae] at he;cases he
 |true=>
  rw[ae,bH] at he;simp only[bL,cU] at he;obtain⟨rfl,rfl⟩:=he;refine⟨_,_,_,?_,GN aD.cells _,rfl,rfl⟩;simp[Instr.box,newVar,newRow,newObj,Sem.run,gO.at]
theorem Pn{t:TypeId}{l l' c bo:Value}{b:ef}{dm:gO}(aw:a3 μ l l')(aF:a3 μ c bo)(he:xK P t l c=some (b,dm))(w:World):C2 P μ w (Instr.makeSlice t l' bo) b dm:=by
 unfold xK at he;cases l with
 |int a8 l=>
  cases c with
  |int a5 c=>
   obtain rfl:=aw.lZ;obtain rfl:=aF.lZ;cases hu:P.underlying t with
   |none=>rw[hu] at he;simp at he
   |some d=>
    rw[hu] at he;cases d with
    |slice elem=>
     simp only at he;cases a0:fw P elem with
     |none=>rw[a0] at he;simp at he
     |some z=>
      rw[a0] at he;cases fQ:o8 P elem with
      |none=>rw[fQ] at he;simp at he
      |some fG=>
       rw[fQ] at he;cases ag:dD P elem with
       |none=>rw[ag] at he;simp at he
       |some sz=>
        rw[ag] at he;simp only at he;cases oi:lY c 1000000 with
        |none=>rw[oi] at he;simp at he
        |some iG=>
         rw[oi] at he;cases cY:lY l 1000000 with
         |none=>rw[cY] at he;simp at he
         |some gJ=>
          rw[cY] at he;simp only at he;cases qD:(Nat.ble gJ iG&&Nat.ble fG 1000000&&Nat.beq z.cells.toList.length sz&&z.cells.toList.all dY&&plain z) with
          |false=>rw[qD] at he;simp at he
          |true=>
           rw[qD,bH] at he;simp only[eT] at qD;obtain⟨⟨⟨⟨aQ,aP⟩,bC⟩,dp⟩,gi⟩:=qD;have aQ:=fV aQ;have aP:=fV aP;have bC:=dB bC;obtain⟨rfl,g2⟩:=wz oi;obtain⟨rfl,ia⟩:=wz cY;simp only[bL,cU] at he;obtain⟨rfl,rfl⟩:=he;have nz:bp μ z.cells.toList z.cells.toList:=(ll gi).cells;have qC:bp μ (fb z.cells.toList iG) (fb z.cells.toList iG):=bp.w3 fun v aD=>by
               exact Ad (p:=fun v=>a3 μ v v) aD (fun u hu=>by
                obtain⟨i,aq⟩:=vc.1 hu;exact nz.2 i u u aq aq)
           refine⟨_,_,_,?_,GN qC _,rfl,hv (by have:(1000000:Nat)<cf:=by decide
                                              omega)⟩
           obtain⟨i,aq,rfl⟩:=DE fQ
           have mK:i.zero=some z:=by simpa[fw,aq] using a0
           have nv:i.size=sz:=by simpa[dD,aq] using ag
           have hmul:i.bytes*iG<=1000000*1000000:=rH aP g2;have jq:=Ae z.cells.toList iG;have e4:=run_make (P:=P) w t elem i z hu aq mK a8 a5 (gJ:Int) (iG:Int) (by omega) (by omega) (by
               have:(i.bytes:Int)*(iG:Int)=((i.bytes*iG:Nat):Int):=by simp
               rw[this];omega) (by omega)
           rw[e4];simp only[jW,gO.at];congr 3
           rw[<-jq];simp[madeCells,nv,<-bC]
    |_=>simp at he
  |_=>simp at he
 |_=>simp at he
theorem Pl{t:TypeId}{len:Nat}{parts jt:List (Nat×Value)}{b:ef}{dm:gO}(ao:qg μ parts jt)(he:AL P t len parts=some (b,dm))(w:World):C2 P μ w (Instr.buildSlice t len jt.toArray) b dm:=by
 unfold AL at he;cases hu:P.underlying t with
 |none=>rw[hu] at he;simp at he
 |some d=>
  rw[hu] at he;cases d with
  |slice elem=>
   simp only at he;cases ag:dD P elem with
   |none=>rw[ag] at he;simp at he
   |some sz=>
    rw[ag] at he;cases a0:fw P elem with
    |none=>rw[a0] at he;simp at he
    |some z=>
     rw[a0] at he;simp only at he;cases aF:(Nat.ble len 100000&&Nat.ble (len*sz) 100000&&plain z&&Nat.beq z.cells.toList.length sz) with
     |false=>rw[aF] at he;simp at he
     |true=>
      rw[aF,bH] at he;simp only[eT] at aF;obtain⟨⟨⟨lm,aQ⟩,aP⟩,bC⟩:=aF;have lm:=fV lm;have aQ:=fV aQ;have bC:=dB bC;cases ay:km (fun i=>some (i*sz,sz)) (fb z.cells.toList len) parts with
      |none=>rw[ay] at he;simp at he
      |some cells=>
       rw[ay] at he;simp only at he;cases ae:cells.all dY with
       |false=>rw[ae] at he;simp at he
       |true=>
        rw[ae,bH] at he;simp only[bL,cU] at he;obtain⟨rfl,rfl⟩:=he;have nz:bp μ z.cells.toList z.cells.toList:=(ll aP).cells;have qC:bp μ (fb z.cells.toList len) (fb z.cells.toList len):=bp.w3 fun v aD=>
         Ad (p:=fun v=>a3 μ v v) aD (fun u hu=>by
           obtain⟨i,aq⟩:=vc.1 hu;exact nz.2 i u u aq aq)
        obtain⟨cA,a,b⟩:=Be ao qC ay
        refine⟨_,_,_,?_,GN b _,rfl,hv (by have:(100000:Nat)<cf:=by decide
                                          omega)⟩
        have jq:=Ae z.cells.toList len;have UX:z.cells.size=sz:=by simpa using bC
        have EO:¬(16777216<len*sz):=by omega
        rw[bC] at jq;simp only[Ow] at jq;by_cases a2:len*sz=0
        ·have tY:fb z.cells.toList len=[]:=s8.1 (by rw[Ht,bC];exact a2)
         rw[tY] at a;have bA:Instr.fill (fun i=>some (i*sz,sz)) (Array.map (fun _=>(default:Value)) (Array.range 0)) jt=some cA.toArray:=by
          have h7:Array.map (fun _:Nat=>(default:Value)) (Array.range 0)=#[]:=by simp
          rw[h7];exact a
         simp[Instr.buildSlice,dH hu,h3 ag,a2,bA,newRow,newObj,Sem.run,gO.at]
        ·have bA:Instr.fill (fun i=>some (i*sz,sz)) ((Array.range (len*sz)).map fun i=>z.cells[i % z.cells.size]!) jt=some cA.toArray:=by rw[jq];exact a
         simp[Instr.buildSlice,dH hu,h3 ag,EO,a2,p4 a0,bA,newRow,newObj,Sem.run,gO.at]
  |_=>simp at he
theorem Cp{T:aL Value}{n:Nat}{tmps:Array Value}(aG:hI μ T n tmps){x:Operand}{v:Value}(he:l5 T x=some v):a3 μ v (cB tmps x):=by
 cases x with
 |tmp t=>exact aG.2 t v he
 |const c=>
  have he:(bif plain c then some c else none)=some v:=he;cases ao:plain c with
  |false=>rw[ao] at he;simp at he
  |true=>rw[ao] at he;simp at he;subst he;exact ll ao
 |global g=>cases he
 |func f=>
  have he:some (Value.func (.func f) #[] #[])=some v:=he;injection he with he;subst he
  exact .func _ _ _ _ _ rfl rfl rfl (fun i v v' q=>by simp at q) (fun i v v' q=>by simp at q)
theorem Xn{T:aL Value}{n:Nat}{tmps:Array Value}(aG:hI μ T n tmps):∀{l:List (Nat×Operand)} {ps:List (Nat×Value)},pT T l=some ps->qg μ ps (l.map fun(i,x)=>(i,cB tmps x)):=by
 intro l;induction l with
 |nil=>intro ps h;simp[pT] at h;subst h;exact⟨rfl,fun i p fI q=>by simp at q⟩
 |cons x l aN=>
  intro ps h;obtain⟨i,x⟩:=x;simp only[pT] at h;cases U:l5 T x with
  |none=>rw[U] at h;cases h
  |some v=>
   rw[U] at h;cases ab:pT T l with
   |none=>rw[ab] at h;cases h
   |some r=>
    rw[ab] at h;injection h with h;subst h
    have:=aN ab;refine⟨by simp[this.1],fun aa p fI q cR=>?_⟩;cases aa with
    |zero=>simp at q cR;subst q;subst cR;exact⟨rfl,Cp aG U⟩
    |succ aa=>exact this.2 aa p fI (by simpa using q) (by simpa using cR)
theorem LB{t:TypeId}{r:Operand}{b:ef}{dm:gO}(he:zn P t r=some (b,dm)):b=.dead/\dm=.map/\r=.const (.int .i64 (.ofNat 0))/\∃key el,P.underlying t=some (.map key el):=by
 unfold zn at he;split at he
 ·cases hu:P.underlying t with
  |none=>rw[hu] at he;cases he
  |some d=>
   rw[hu] at he;cases d with
   |map a c=>
    simp only[bL,cU] at he;exact⟨he.1.symm,he.2.symm,rfl,a,c,rfl⟩
   |_=>cases he
 ·cases he
theorem Po{T:aL Value}{n:Nat}{tmps:Array Value}{o:Oper}{b:ef}{dm:gO}(aG:hI μ T n tmps)(he:kh P T o.op=some (b,dm))(w:World):
 ∃lh N sz,(execOp (cB tmps) o).run P w=.ok (.value (dm.at w.heap.size)) (w.alloc lh)/\hl P μ ⟨w.heap.size,N,sz⟩ b lh/\hM (some b)=false/\dm.ok=true:=by
 cases ae:o.op<;>rw[ae] at he<;>simp only[kh] at he
 case alloc elem=>
  cases a0:fw P elem with
  |none=>rw[a0] at he;cases he
  |some z=>
   rw[a0] at he;cases ao:plain z with
   |false=>simp only[ao] at he;cases he
   |true=>
    simp only[ao,bH] at he;obtain⟨lh,N,sz,bP,bS,cE,c4⟩:=IB (P:=P) (ll (μ:=μ) ao) he w;refine⟨lh,N,sz,?_,bS,cE,c4⟩;have:(Instr.alloc elem true (.tuple #[])).run P w=.ok (dm.at w.heap.size) (w.alloc lh):=by simpa[Instr.alloc,Instr.box,p4 a0] using bP
    simp[execOp,ae,this]
 case box elem x=>
  cases j:l5 T x with
  |none=>rw[j] at he;cases he
  |some v=>
   rw[j] at he;obtain⟨lh,N,sz,bP,bS,cE,c4⟩:=IB (P:=P) (Cp aG j) he w;exact⟨lh,N,sz,by simp[execOp,ae,bP],bS,cE,c4⟩
 case buildSlice t len parts=>
  cases j:pT T parts.toList with
  |none=>rw[j] at he;cases he
  |some ps=>
   rw[j] at he;obtain⟨lh,N,sz,bP,bS,cE,c4⟩:=Pl (P:=P) (Xn aG j) he w;have aA:(parts.toList.map fun(i,x)=>(i,cB tmps x)).toArray=parts.map fun(i,x)=>(i,cB tmps x):=by apply mZ;simp
   rw[aA] at bP;exact⟨lh,N,sz,by simp[execOp,ae,bP],bS,cE,c4⟩
 case makeMap t r=>
  cases r with
  |some r=>
   obtain⟨rfl,rfl,rfl,key,el,hu⟩:=LB (show zn P t r=some (b,dm) from he);exact⟨.map #[] 0,0,0,by simp[execOp,ae,Instr.makeMap,newObj,Sem.run,gO.at,dH hu,cB,asInt,asIntOf],trivial,rfl,rfl⟩
  |none=>
   simp only[bL,cU] at he;obtain⟨rfl,rfl⟩:=he;exact⟨.map #[] 0,0,0,by simp[execOp,ae,Instr.makeMap,newObj,Sem.run,gO.at],s0.nil _,rfl,rfl⟩
 case makeSlice t l c=>
  cases U:l5 T l with
  |none=>rw[U] at he;cases he
  |some LI=>
   cases ab:l5 T c with
   |none=>rw[U,ab] at he;cases he
   |some gb=>
    rw[U,ab] at he;obtain⟨lh,N,sz,bP,bS,cE,c4⟩:=Pn (P:=P) (Cp aG U) (Cp aG ab) he w;exact⟨lh,N,sz,by simp[execOp,ae,bP],bS,cE,c4⟩
 all_goals cases he
end
end
end Go.Cre
namespace Go.Cre
noncomputable section
open Go.RowKit
theorem sU(a b i:Nat):Nat.testBit (Nat.lor a b) i=(a.testBit i||b.testBit i):=Nat.testBit_or a b i
theorem CM(a b i:Nat):Nat.testBit (Nat.land a b) i=(a.testBit i&&b.testBit i):=Nat.testBit_and a b i
theorem CN(i aa:Nat):Nat.testBit (Nat.pow 2 i) aa=decide (i=aa):=Nat.testBit_two_pow (n:=i) (m:=aa)
theorem iy{C i aa:Nat}:Nat.testBit (Nat.lor C (Nat.pow 2 i)) aa=true↔Nat.testBit C aa=true\/i=aa:=by
 rw[sU,CN];simp
theorem G1{a b:Nat}(h:sub a b=true){i:Nat}(aq:a.testBit i=true):b.testBit i=true:=by
 have h:=dB h;rw[<-h,CM] at aq;simp at aq;exact aq.2
theorem Jj{l:List Edge}{i:Nat}:(vt l).testBit i=true↔∃e∈l,Region.binds .any e=true/\e.on=i:=by
 induction l with
 |nil=>simp[vt]
 |cons e l aN=>
  simp only[vt];cases af:Region.binds .any e with
  |false=>simp[aN,af]
  |true=>rw[bH,sU,CN];simp[aN,af]
theorem VR{l:List Nat}{i:Nat}:(ur l).testBit i=true↔i∈l:=by
 induction l with
 |nil=>simp[ur]
 |cons e l aN=>
  simp only[ur];rw[sU,CN,ru,aN,fy,decide_eq_true_iff];exact⟨fun q=>q.imp Eq.symm id,fun q=>q.imp Eq.symm id⟩
theorem Vc{C:Nat}:∀{n:Nat},BX C n=true->∀i,i<n->C.testBit i=true:=by
 intro n;induction n with
 |zero=>intro _ i aq;omega
 |succ n aN=>
  intro h i aq;simp only[BX,eT] at h;by_cases e:i=n
  ·subst e;exact h.1
  ·exact aN h.2 i (by omega)
theorem WQ{C i:Nat}:∀{l:List Oper} {k:Nat},only C i l k=true->∀aa o,l[aa]?=some o->C.testBit (k+aa)=true\/k+aa=i\/sub (Oper.gK o) C=false:=by
 intro l;induction l with
 |nil=>intro k _ aa o h;simp at h
 |cons a l aN=>
  intro k h aa o ae;simp only[only,eT,ru,nT] at h;cases aa with
  |zero=>
   simp at ae;subst ae;rcases h.1 with(q|q)|q
   ·exact .inl q
   ·exact .inr (.inl (dB q))
   ·exact .inr (.inr q)
  |succ aa=>
   have:=aN h.2 aa o (by simpa using ae);have e:k+1+aa=k+(aa+1):=by omega
   rw[e] at this;exact this
theorem Pj{bT c7 C:Nat}:∀{l:List Nat},AK bT c7 C l=true->∀i∈l,C.testBit i=true/\c7.testBit i=false:=by
 intro l;induction l with
 |nil=>intro _ i aq;simp at aq
 |cons a l aN=>
  intro h i aq;simp only[AK,eT,nT] at h;rcases fy.1 aq with rfl|aq
  ·exact h.1
  ·exact aN h.2 i aq
theorem Qm{ops:List Oper}{D:Nat->Bool}(ax:∀i o aa,D i=true->ops[i]?=some o->(Oper.gK o).testBit aa=true->D aa=true):∀{n K:Nat},(∀i,K.testBit i=true->D i=true)->∀i,(o9 ops n K).testBit i=true->D i=true:=by
 intro n;induction n with
 |zero=>intro K h i aq;exact h i aq
 |succ n aN=>
  intro K h i aq;simp only[o9] at aq;refine aN (fun aa aX=>?_) i aq;cases af:K.testBit n with
  |false=>rw[af] at aX;exact h aa aX
  |true=>
   rw[af,bH] at aX;rw[jr] at aX;cases ae:ops[n]? with
   |none=>rw[ae] at aX;exact h aa aX
   |some o=>
    rw[ae] at aX;simp only at aX;rw[sU] at aX;simp only[ru] at aX;rcases aX with q|q
    ·exact h aa q
    ·exact ax n o aa (h n af) ae q
theorem Pm{l:List Oper}:∀{k aa:Nat} {o:Oper},l[aa]?=some o->sr o.op=true->(rN l k).testBit (k+aa)=true:=by
 induction l with
 |nil=>intro k aa o h;simp at h
 |cons a l aN=>
  intro k aa o ae aK;simp only[rN];rw[sU];cases aa with
  |zero=>simp at ae;subst ae;rw[aK,bH,CN];simp
  |succ aa=>
   have:=aN (k:=k+1) (by simpa using ae) aK;have e:k+1+aa=k+(aa+1):=by omega
   rw[e] at this;rw[this];simp
structure qh (ops:List Oper) (bT:Nat):Prop where
 dst:∀(i aa:Nat) a b d,ops[i]?=some a->ops[aa]?=some b->i≠aa->a.dst=some d->b.dst≠some d
 look:∀(i aa:Nat) a b d,ops[i]?=some a->ops[aa]?=some b->a.dst=some d->d∈looks ops b->(Oper.gK b).testBit i=true\/(bT.testBit i=true/\(i=aa\/(Oper.gK a).testBit aa=true))
 down:∀(i:Nat) a aa,ops[i]?=some a->(Oper.gK a).testBit aa=true->aa<i
 bZ:∀(i:Nat) a,ops[i]?=some a->bT.testBit i=false->wA a.op=false
theorem Xl{ops:List Oper}{bT i:Nat}{a:Oper}:∀{l:List Oper} {k:Nat},Cr ops bT i a l k=true->∀aa b,l[aa]?=some b->wT ops bT i (k+aa) a b=true:=by
 intro l;induction l with
 |nil=>intro k _ aa b h;simp at h
 |cons c l aN=>
  intro k h aa b af;simp only[Cr,eT] at h;cases aa with
  |zero=>simp at af;subst af;exact h.1
  |succ aa=>
   have:=aN h.2 aa b (by simpa using af);have e:k+1+aa=k+(aa+1):=by omega
   rw[e] at this;exact this
theorem GD{ops:List Oper}{bT:Nat}:∀{l:List Oper} {k:Nat},zM ops bT l k=true->∀i a,l[i]?=some a->
 (∀aa b,ops[aa]?=some b->wT ops bT (k+i) aa a b=true)/\(Oper.gK a)<2 ^ (k+i)/\(bT.testBit (k+i)=true\/wA a.op=false):=by
 intro l;induction l with
 |nil=>intro k _ i a h;simp at h
 |cons c l aN=>
  intro k h i a aK;simp only[zM,eT,ru,nT] at h;cases i with
  |zero=>
   simp at aK;subst aK;refine⟨fun aa b af=>?_,fV h.1.1.2,h.1.2⟩;have:=Xl h.1.1.1 aa b af;simpa using this
  |succ i=>
   have:=aN h.2 i a (by simpa using aK);have e:k+1+i=k+(i+1):=by omega
   rw[e] at this;exact this
theorem Yv{ops:List Oper}{bT:Nat}(h:zM ops bT ops 0=true):qh ops bT:=by
 have ao:∀(i aa:Nat) a b,ops[i]?=some a->ops[aa]?=some b->wT ops bT i aa a b=true:=fun i aa a b aK af=>by
  have:=(GD h i a aK).1 aa b af;simpa using this
 refine⟨fun i aa a b d aK af TS ax tS=>?_,fun i aa a b d aK af ax aw=>?_,fun i a aa aK aX=>?_,fun i a aK aF=>?_⟩
 ·have:=ao i aa a b aK af;simp only[wT,eT,ru,nT] at this;rcases this.1 with q|q
  ·exact TS (dB q)
  ·simp[M2,ax,tS] at q
 ·have:=ao i aa a b aK af;simp only[wT,eT,ru,nT] at this;rcases this.2 with(q|q)|q
  ·exfalso;simp only[F7,ax] at q;rw[List.any_eq_false] at q;exact q d aw (by simp)
  ·exact .inl q
  ·exact .inr ⟨q.1,q.2.imp (fun x=>dB x) id⟩
 ·have ab:=(GD h i a aK).2.1;rw[lE] at ab;rcases gX aa i with q|q
  ·exact q
  ·have aV:(Oper.gK a)<2 ^ aa:=jZ ab (xD (by omega) q);rw[Nat.testBit_lt_two_pow aV] at aX;cases aX
 ·have ab:=(GD h i a aK).2.2;rw[lE] at ab;rcases ab with q|q
  ·rw[q] at aF;cases aF
  ·exact q
theorem IC{P:Program}{T:aL Value}{op:Op}{b:ef}{dm:gO}(he:kh P T op=some (b,dm)):hM (some b)=false:=by
 have box:∀{elem v},tk elem v=some (b,dm)->hM (some b)=false:=fun{elem v} q=>by
  unfold tk at q;cases ae:v.cells.toList.all dY with
  |false=>rw[ae] at q;cases q
  |true=>rw[ae,bH] at q;simp only[bL,cU] at q;obtain⟨rfl,rfl⟩:=q;rfl
 have fin:∀{c:Bool} {cells:List Value} {elem:TypeId} {k:gO},(bif c then some (ef.row cells elem false 0 0 false,k) else none)=some (b,dm)->hM (some b)=false:=fun{c cells elem k} q=>by
  cases c with
  |false=>cases q
  |true=>simp only[bH,bL,cU] at q;obtain⟨rfl,rfl⟩:=q;rfl
 cases op<;>simp only[kh] at he
 case alloc elem=>
  split at he
  ·rename_i z _;cases ao:plain z with
   |false=>rw[ao] at he;cases he
   |true=>rw[ao,bH] at he;exact box he
  ·cases he
 case box elem x=>
  split at he
  ·exact box he
  ·cases he
 case buildSlice t len ps=>
  split at he
  ·unfold AL at he;split at he
   ·split at he
    ·rename_i sz z _ _;cases aF:(Nat.ble len 100000&&Nat.ble (len*sz) 100000&&plain z&&Nat.beq z.cells.toList.length sz) with
     |false=>rw[aF] at he;cases he
     |true=>
      rw[aF,bH] at he;split at he
      ·exact fin he
      ·cases he
    ·cases he
   ·cases he
  ·cases he
 case makeMap t r=>
  cases r with
  |some r=>obtain⟨rfl,rfl,_⟩:=LB (show zn P t r=some (b,dm) from he);rfl
  |none=>simp only[bL,cU] at he;obtain⟨rfl,rfl⟩:=he;rfl
 case makeSlice t l c=>
  split at he
  ·unfold xK at he;split at he
   ·split at he
    ·split at he
     ·exact fin he
     ·cases he
    ·cases he
   ·cases he
  ·cases he
 all_goals cases he
end
end Go.Cre

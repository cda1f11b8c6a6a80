/- A part of the proof of TableMetric. -/
import Derived.Test.YtmmfodofkbmfnaaGreatDoorCad
import Derived.Laws.Append
import Derived.Laws.AppendOwn
set_option linter.unusedVariables false
set_option linter.unusedSimpArgs false
namespace Go.Cre
noncomputable section
open Go.RowKit
def Ee(N du:Nat)(sh:Bool)(f:Nat×Nat):Prop:=(∀off,off<N->f.1<=off->off<f.2->off<du)/\(sh=false->f.1=f.2\/f.2<=du)
inductive p7 (μ:bm):List MapEntry->List MapEntry->Prop
 |nil:p7 μ [] []
 |cons (e bl:MapEntry) (es j2:List MapEntry):bl.key=e.key->plain e.key=true->a3 μ e.val bl.val->p7 μ es j2->p7 μ (e::es) (bl::j2)
def s0(μ:bm)(es j2:List MapEntry):Prop:=∃l,l.Perm j2/\p7 μ es l
theorem p7.mono{μ a4:bm}{l m:List MapEntry}(h:p7 μ l m)(e:Ext μ a4):p7 a4 l m:=by
 induction h with
 |nil=>exact .nil
 |cons a b es j2 U ab aV _ aN=>exact .cons a b es j2 U ab (aV.mono e) aN
theorem p7.length{μ:bm}{l m:List MapEntry}(h:p7 μ l m):l.length=m.length:=by
 induction h with
 |nil=>rfl
 |cons a b es j2 U ab aV _ aN=>simp[aN]
theorem s0.length{μ:bm}{l m:List MapEntry}(h:s0 μ l m):l.length=m.length:=by
 obtain⟨k,U,ab⟩:=h;rw[ab.length,U.length_eq]
theorem s0.nil(μ:bm):s0 μ [] []:=⟨[],.refl _,.nil⟩
def hI(μ:bm)(T:aL Value)(n:Nat)(tmps:Array Value):Prop:=n<=tmps.size/\∀t v,T.get t=some v->a3 μ v (tmps.getD t undef)
def hl(P:Program)(μ:bm)(L:Loc):ef->Obj->Prop
 |.row cells elem opn _ du sh,.cells c e f=>e=elem/\c.size=L.N/\P.cellsOf elem=L.sz/\cells.length<=L.N/\(opn=false->cells.length=L.N)/\
  (∀(i:Nat) v v',cells[i]?=some v->c[i]?=some v'->a3 μ v v')/\Ee L.N du sh f
 |.map es _,.map j2 _=>s0 μ es j2.toList
 |.loop l,.loop l'=>l'.state=l.state/\l'.pending=l.pending/\l'.params.toList=l.params/\l'.assign=l.assign/\l'.body=l.body/\hI μ l.T l.n l'.tmps/\∃bn,μ l.fN=some bn/\l'.defers=bn.r
 |.fN ds,.deferred dT=>dT=ds/\(ds=some []\/ds=none)
 |.dead,_=>True
 |_,_=>False
theorem hI.mono{μ a4:bm}{T:aL Value}{n:Nat}{tmps:Array Value}(h:hI μ T n tmps)(e:Ext μ a4):hI a4 T n tmps:=⟨h.1,fun t v x=>(h.2 t v x).mono e⟩
theorem hl.mono{P:Program}{μ a4:bm}{L:Loc}{b:ef}{o:Obj}(h:hl P μ L b o)(e:Ext μ a4):hl P a4 L b o:=by
 cases b with
 |row cells elem opn ba du sh=>
  cases o with
  |cells c bl f=>obtain⟨U,ab,aV,br,gq,hW,vK⟩:=h;exact⟨U,ab,aV,br,gq,fun i v v' a b=>(hW i v v' a b).mono e,vK⟩
  |_=>exact h
 |map es clock=>
  cases o with
  |map j2 AX=>obtain⟨l,U,ab⟩:=h;exact⟨l,U,ab.mono e⟩
  |_=>exact h
 |loop l=>
  cases o with
  |loop l'=>obtain⟨U,ab,aV,br,gq,hW,bn,vK,SJ⟩:=h;exact⟨U,ab,aV,br,gq,hW.mono e,bn,e _ _ vK,SJ⟩
  |_=>exact h
 |fN ds=>
  cases o with
  |deferred dT=>exact h
  |_=>exact h
 |dead=>cases o<;>trivial
def hM:Option ef->Bool
 |some (.row _ _ opn _ _ _)=>opn
 |_=>false
def qY(H:ah)(id f:Nat):Prop:=∃c e z s,H.mem.get id=some (.row c e true f z s)
def Hx(H:ah)(id iY:Nat):Prop:=
 H.mem.get id=some .dead\/H.mem.get iY=some .dead\/∃f l,qY H id f/\qY H iY f/\H.ba.get f=some l/\id∈l/\iY∈l
def Dg(H:ah)(l:List Nat):Prop:=
 l.Pairwise fun x y=>∀c e f z s bo bl cd fv c1,H.mem.get x=some (.row c e true f z s)->H.mem.get y=some (.row bo bl true cd fv c1)->bo.length<=c.length
structure Kept (B:Nat->Prop) (w aZ:World):Prop where
 os:aZ.os=w.os
 tape:aZ.tape=w.tape
 output:aZ.output=w.output
 size:w.heap.size<=aZ.heap.size
 block:∀k,B k->aZ.heap[k]?=w.heap[k]?
theorem Kept.refl(B:Nat->Prop)(w:World):Kept B w w:=⟨rfl,rfl,rfl,c9 _,fun _ _=>rfl⟩
theorem Kept.trans{B:Nat->Prop}{a b c:World}(h:Kept B a b)(k:Kept B b c):Kept B a c:=
 ⟨k.os.trans h.os,k.tape.trans h.tape,k.output.trans h.output,ej h.size k.size,fun i aq=>(k.block i aq).trans (h.block i aq)⟩
theorem Kept.drew{B:Nat->Prop}{a w:World}(h:Kept B a w):Kept B a w.drew:=⟨h.os,h.tape,h.output,h.size,h.block⟩
theorem Kept.alloc{B:Nat->Prop}{a w:World}(h:Kept B a w)(fm:∀k,B k->k<w.heap.size)(o:Obj):Kept B a (w.alloc o):=
 h.trans ⟨rfl,rfl,rfl,by simp,fun k hk=>Below.heap_alloc _ _ _ (fm k hk)⟩
theorem Kept.below{n:Nat}{w aZ:World}(h:Kept (fun k=>k<n) w aZ):Below n w aZ:=⟨h.os,h.tape,h.output,h.size,h.block⟩
theorem Kept.WD{n:Nat}{B:Nat->Prop}{w aZ:World}(h:Below n w aZ)(fm:∀k,B k->k<n):Kept B w aZ:=⟨h.os,h.tape,h.output,h.size,fun k hk=>h.block k (fm k hk)⟩
structure bz (P:Program) (B:Nat->Prop) (w0:World) (μ:bm) (H:ah) (w:World):Prop where
 below:Kept B w0 w
 kj:∀k,B k->k<w.heap.size
 eG:∀id L,μ id=some L->∃b o,H.mem.get id=some b/\w.heap[L.r]?=some o/\hl P μ L b o
 sep:∀id iY L bn,id≠iY->μ id=some L->μ iY=some bn->L.r=bn.r->Hx H id iY
 lt:∀id L,μ id=some L->id<H.av
 own:∀id L,μ id=some L->id<H.bf->L.r=id
 new:∀id L,μ id=some L->H.bf<=id->H.mem.get id≠some .dead->¬B L.r
 oa:∀g c e o f z s,g<H.bf->H.mem.get g=some (.row c e o f z s)->∃L,μ g=some L
 hV:H.bf<=H.av
 mu:∀id c e f z s,H.mem.get id=some (.row c e true f z s)->f<H.bM
 im:∀f l x,H.ba.get f=some l->x∈l->x<H.av/\(hM (H.mem.get x)=true\/H.mem.get x=some .dead)
 pk:∀f l,H.ba.get f=some l->Dg H l
structure Step (μ a4:bm) (H H':ah):Prop where
 ext:Ext μ a4
 av:H.av<=H'.av
 bf:H'.bf=H.bf
 eN:∀id,id<H.av->μ id=none->a4 id=none/\(hM (H.mem.get id)=false->H'.mem.get id=H.mem.get id)
theorem Step.refl(μ:bm)(H:ah):Step μ μ H H:=⟨Ext.refl μ,c9 _,rfl,fun _ _ h=>⟨h,fun _=>rfl⟩⟩
theorem Step.trans{μ d' g8:bm}{H H1 bG:ah}(h:Step μ d' H H1)(k:Step d' g8 H1 bG):Step μ g8 H bG:=
 ⟨h.ext.trans k.ext,ej h.av k.av,k.bf.trans h.bf,fun id aq aE=>by
  obtain⟨a,b⟩:=h.eN id aq aE;obtain⟨c,d⟩:=k.eN id (jZ aq h.av) a;exact⟨c,fun ae=>by rw[d (by rw[b ae];exact ae),b ae]⟩⟩
theorem ah.rm{H H':ah}{id:Nat}{b:ef}(h:H.upd id b=some H'):H'.av=H.av/\H'.ba=H.ba/\H'.bM=H.bM/\H'.bf=H.bf/\∀m,H'.mem.get m=if m=id then some b else H.mem.get m:=by
 obtain⟨mem,av,ba,bM,bf⟩:=H;simp only[ah.upd] at h;cases ao:aL.put b mem id with
 |none=>rw[ao] at h;cases h
 |some m=>rw[ao] at h;injection h with h;subst h;exact⟨rfl,rfl,rfl,rfl,aL.get_put ao⟩
theorem ah.l3{H H':ah}{id:Nat}{b:ef}(h:H.new b=some (id,H')):id=H.av/\H'.av=H.av+1/\H'.ba=H.ba/\H'.bM=H.bM/\H'.bf=H.bf/\∀m,H'.mem.get m=if m=H.av then some b else H.mem.get m:=by
 obtain⟨mem,av,ba,bM,bf⟩:=H;simp only[ah.new] at h;cases ao:aL.put b mem av with
 |none=>rw[ao] at h;cases h
 |some m=>
  rw[ao] at h;simp only[ah.Gg,ah.L5,bL,cU] at h;obtain⟨rfl,rfl⟩:=h;exact⟨rfl,rfl,rfl,rfl,rfl,aL.get_put ao⟩
theorem ah.w4{H H':ah}{f:Nat}{l:List Nat}(h:H.mW f l=some H'):H'.av=H.av/\H'.mem=H.mem/\H'.bM=H.bM/\H'.bf=H.bf/\∀m,H'.ba.get m=if m=f then some l else H.ba.get m:=by
 obtain⟨mem,av,ba,bM,bf⟩:=H;simp only[ah.mW] at h;cases ao:aL.put l ba f with
 |none=>rw[ao] at h;cases h
 |some m=>rw[ao] at h;injection h with h;subst h;exact⟨rfl,rfl,rfl,rfl,aL.get_put ao⟩
theorem ah.Ce{H H':ah}{f:Nat}(h:H.pL=some (f,H')):f=H.bM/\H'.av=H.av/\H'.mem=H.mem/\H'.bM=H.bM+1/\H'.bf=H.bf/\∀m,H'.ba.get m=if m=H.bM then some [H.av] else H.ba.get m:=by
 obtain⟨mem,av,ba,bM,bf⟩:=H;simp only[ah.pL] at h;cases ao:aL.put [av] ba bM with
 |none=>rw[ao] at h;cases h
 |some m=>
  rw[ao] at h;simp only[ah.Gh,ah.L6,bL,cU] at h;obtain⟨rfl,rfl⟩:=h;exact⟨rfl,rfl,rfl,rfl,rfl,aL.get_put ao⟩
def bm.put(μ:bm)(id:Nat)(L:Loc):bm:=fun x=>if x=id then some L else μ x
theorem bm.hC(μ:bm)(id:Nat)(L:Loc):μ.put id L id=some L:=by simp[bm.put]
theorem bm.oP(μ:bm){id x:Nat}(L:Loc)(h:x≠id):μ.put id L x=μ x:=by simp[bm.put,h]
section
variable {P:Program}{B:Nat->Prop}{w0 w:World}{μ:bm}{H H':ah}
theorem bz.L'(h:bz P B w0 μ H w):μ H.av=none:=by
 cases j:μ H.av with
 |none=>rfl
 |some L=>have:=h.lt _ _ j;omega
theorem bz.pj(h:bz P B w0 μ H w)(L:Loc):Ext μ (μ.put H.av L):=fun id bn j=>by
 by_cases e:id=H.av
 ·subst e;rw[h.L'] at j;cases j
 ·rw[bm.oP _ _ e];exact j
theorem bz.drew(h:bz P B w0 μ H w):bz P B w0 μ H w.drew:=
 ⟨h.below.drew,h.kj,h.eG,h.sep,h.lt,h.own,h.new,h.oa,h.hV,h.mu,h.im,h.pk⟩
theorem bz.drawn(h:bz P B w0 μ H w)(n:Nat):bz P B w0 μ H {w with drawn:=n}:=
 ⟨⟨h.below.os,h.below.tape,h.below.output,h.below.size,h.below.block⟩,h.kj,h.eG,h.sep,h.lt,h.own,h.new,h.oa,h.hV,h.mu,h.im,h.pk⟩
theorem vV(w:World)(o:Obj)(r:Nat):(w.alloc o).heap[r]?=if r=w.heap.size then some o else w.heap[r]?:=by
 show(w.heap.push o)[r]?=_;rw[Array.getElem?_push]
theorem bz.LL(h:bz P B w0 μ H w){b:ef}{o:Obj}{L:Loc}(aA:H'.av=H.av+1)(dU:H'.bf=H.bf)(b5:∀m,H'.mem.get m=if m=H.av then some b else H.mem.get m)
 (Fb:H.bM<=H'.bM)(kM:∀f l,H'.ba.get f=some l->H.ba.get f=some l\/(l=[H.av]/\hM (some b)=true))(TH:∀f l,f<H.bM->H.ba.get f=some l->H'.ba.get f=some l)
 (T7:∀c e f z s,b=.row c e true f z s->f<H'.bM)(ap:L.r=w.heap.size)(af:hl P (μ.put H.av L) L b o):
 bz P B w0 (μ.put H.av L) H' (w.alloc o)/\Step μ (μ.put H.av L) H H':=by
 have hX:=h.pj L;have c3:∀x bn,(μ.put H.av L) x=some bn->x≠H.av->μ x=some bn:=fun x bn a b=>by rwa [bm.oP _ _ b] at a
 have cx:∀x bn,μ x=some bn->bn.r<w.heap.size:=fun x bn j=>by
  obtain⟨b',o',_,ae,_⟩:=h.eG x bn j;rcases gX bn.r w.heap.size with cF|cF
  ·exact cF
  ·rw[nS cF] at ae;cases ae
 refine⟨⟨h.below.alloc h.kj o,?_,?_,?_,?_,?_,?_,?_,?_,?_,?_,?_⟩,⟨hX,by omega,dU,?_⟩⟩
 ·intro k hk;have:=h.kj k hk;show k<(w.heap.push o).size;rw[HA];omega
 ·intro x bn j;by_cases cG:x=H.av
  ·subst cG;rw[bm.hC] at j;injection j with j;subst j
   exact⟨b,o,by rw[b5];simp,by rw[vV,ap];simp,af⟩
  ·have gr:=c3 x bn j cG;obtain⟨b',o',U,ab,aV⟩:=h.eG x bn gr;exact⟨b',o',by rw[b5,a1 cG];exact U,by rw[vV,a1 (by have:=cx x bn gr;omega)];exact ab,aV.mono hX⟩
 ·intro x y fL fU dy j aC ko;by_cases cG:x=H.av
  ·subst cG;rw[bm.hC] at j;injection j with j;subst j
   have:=cx y fU (c3 y fU aC (Ne.symm dy));omega
  ·by_cases ic:y=H.av
   ·subst ic;rw[bm.hC] at aC;injection aC with aC;subst aC
    have:=cx x fL (c3 x fL j cG);omega
   ·rcases h.sep x y fL fU dy (c3 x fL j cG) (c3 y fU aC ic) ko with d|d|⟨f,l,⟨c,e,z,s,q⟩,⟨bo,bl,fv,c1,cR⟩,aw,cM,gz⟩
    ·exact .inl (by rw[b5,a1 cG];exact d)
    ·exact .inr (.inl (by rw[b5,a1 ic];exact d))
    ·exact .inr (.inr ⟨f,l,⟨c,e,z,s,by rw[b5,a1 cG];exact q⟩,⟨bo,bl,fv,c1,by rw[b5,a1 ic];exact cR⟩,TH f l (h.mu _ _ _ _ _ _ q) aw,cM,gz⟩)
 ·intro x bn j;by_cases cG:x=H.av
  ·omega
  ·have:=h.lt x bn (c3 x bn j cG);omega
 ·intro x bn j ar;rw[dU] at ar;have cG:x≠H.av:=by have:=h.hV;omega
  exact h.own x bn (c3 x bn j cG) ar
 ·intro x bn j ar dk;rw[dU] at ar;by_cases cG:x=H.av
  ·subst cG;rw[bm.hC] at j;injection j with j;subst j
   rw[ap];exact fun q=>tg _ (h.kj _ q)
  ·exact h.new x bn (c3 x bn j cG) ar (by rw[b5,a1 cG] at dk;exact dk)
 ·intro g c e o f z s ar hm;rw[dU] at ar;have tV:g≠H.av:=by have:=h.hV;omega
  rw[b5,a1 tV] at hm;obtain⟨bn,bD⟩:=h.oa g c e o f z s ar hm;exact⟨bn,hX _ _ bD⟩
 ·rw[dU,aA];have:=h.hV;omega
 ·intro x c e f z s hm;rw[b5] at hm;split at hm
  ·injection hm with hm;exact T7 c e f z s hm
  ·exact jZ (h.mu x c e f z s hm) Fb
 ·intro f l x aw j;rcases kM f l aw with aw|⟨rfl,ae⟩
  ·obtain⟨a,d⟩:=h.im f l x aw j;have cG:x≠H.av:=by omega
   refine⟨by omega,?_⟩;rw[b5,a1 cG];exact d
  ·simp at j;subst j;exact⟨by omega,.inl (by rw[b5];simpa using ae)⟩
 ·intro f l aw;rcases kM f l aw with aw|⟨rfl,_⟩
  ·refine(h.pk f l aw).imp_of_mem ?_;intro x y j aC dy c e f1 z s bo bl cd fv c1 q cR;have gr:=(h.im f l x aw j).1;have FO:=(h.im f l y aw aC).1;rw[b5,a1 (by omega)] at q cR;exact dy c e _ z s bo bl cd fv c1 q cR
  ·exact OQ _ _
 ·intro x j gV;have cG:x≠H.av:=by omega
  exact⟨by rw[bm.oP _ _ cG];exact gV,fun _=>by rw[b5,a1 cG]⟩
theorem bz.made(h:bz P B w0 μ H w){id:Nat}{b:ef}{o:Obj}{L:Loc}(aE:H.new b=some (id,H'))(ae:hM (some b)=false)(ap:L.r=w.heap.size)(af:hl P (μ.put H.av L) L b o):
 bz P B w0 (μ.put H.av L) H' (w.alloc o)/\Step μ (μ.put H.av L) H H'/\id=H.av:=by
 obtain⟨rfl,aA,aW,cr,dU,b5⟩:=ah.l3 aE;obtain⟨a,b⟩:=h.LL (H':=H') aA dU b5 (by omega) (fun f l x=>.inl (by rw[<-aW];exact x)) (fun f l _ x=>by rw[aW];exact x) (fun c e f z s q=>by rw[q] at ae;simp[hM] at ae) ap af;exact⟨a,b,rfl⟩
theorem bz.F'(h:bz P B w0 μ H w){id:Nat}{cells:List Value}{elem:TypeId}{sh:Bool}{o:Obj}{L:Loc}(aE:H.kt cells elem sh=some (id,H'))(ap:L.r=w.heap.size)
 (af:∀f,hl P (μ.put H.av L) L (.row cells elem true f 0 sh) o):
 bz P B w0 (μ.put H.av L) H' (w.alloc o)/\Step μ (μ.put H.av L) H H'/\id=H.av:=by
 unfold ah.kt at aE;cases ay:H.pL with
 |none=>rw[ay] at aE;cases aE
 |some p=>
  obtain⟨f,H1⟩:=p;rw[ay] at aE;obtain⟨rfl,bP,bS,cE,c4,cO⟩:=ah.Ce ay;obtain⟨rfl,aA,aW,cr,dU,b5⟩:=ah.l3 aE
  obtain⟨x,y⟩:=h.LL (H':=H') (b:=.row cells elem true H.bM 0 sh) (o:=o) (L:=L) (by omega) (by rw[dU,c4]) (fun m=>by rw[b5,bP,bS]) (by omega)
   (fun f l aw=>by
    rw[aW,cO] at aw;split at aw
    ·injection aw with aw;exact .inr ⟨aw.symm,rfl⟩
    ·exact .inl aw)
   (fun f l ay aw=>by rw[aW,cO,a1 (by omega)];exact aw)
   (fun c e f z s q=>by injection q with _ _ _ q;omega) ap (af _)
  exact⟨x,y,bP⟩
theorem bz.write(h:bz P B w0 μ H w){id:Nat}{L:Loc}{b':ef}{o':Obj}(bD:μ id=some L)(ar:H.bf<=id)(py:H.mem.get id≠some .dead)
 (aA:H'.av=H.av)(aW:H'.bM=H.bM)(cr:H'.bf=H.bf)(vu:H'.mem.get id=some b')
 (bB:∀x,x≠id->H'.mem.get x=H.mem.get x\/(H'.mem.get x=some .dead/\(hM (H.mem.get x)=true\/H.mem.get x=some .dead)))
 (Rp:∀x bn,x≠id->μ x=some bn->bn.r=L.r->H'.mem.get x=some .dead)
 (DW:∀f l,H.ba.get f=some l->H'.ba.get f=some l\/∀x y,x∈l->y∈l->x≠y->H'.mem.get x=some .dead\/H'.mem.get y=some .dead)
 (x7:∀f l,H'.ba.get f=some l->H.ba.get f=some l\/(l=[id]/\hM (some b')=true))
 (dd:∀c e f z s,b'=.row c e true f z s->∃bo bl fv c1,H.mem.get id=some (.row bo bl true f fv c1)/\bo.length=c.length)
 (KK:hM (H.mem.get id)=true->hM (some b')=true)(af:hl P μ L b' o'):
 bz P B w0 μ H' {w with heap:=w.heap.setIfInBounds L.r o'}/\Step μ μ H H':=by
 have mA:∀x,H.mem.get x=some .dead->H'.mem.get x=some .dead:=fun x j=>by
  have dV:x≠id:=fun e=>py (e▸j);rcases bB x dV with q|q
  ·rw[q,j]
  ·exact q.1
 have kM:∀x f,qY H x f->H'.mem.get x=some .dead\/qY H' x f:=fun x f j=>by
  obtain⟨c,e,z,s,q⟩:=j;by_cases hg:x=id
  ·subst hg;right
   have ae:=KK (by rw[q];rfl);cases b' with
   |row bE n8 l4 f1 dw s1=>
    simp only[hM] at ae;subst ae;obtain⟨bo,bl,fv,c1,cR,_⟩:=dd bE n8 f1 dw s1 rfl;rw[q] at cR;injection cR with cR;injection cR with _ _ _ XV;subst XV
    exact⟨bE,n8,dw,s1,vu⟩
   |_=>simp[hM] at ae
  ·rcases bB x hg with p|p
   ·right;exact⟨c,e,z,s,by rw[p];exact q⟩
   ·left;exact p.1
 have ED:L.r<w.heap.size:=by
  obtain⟨b,o,_,ae,_⟩:=h.eG id L bD;rcases gX L.r w.heap.size with cF|cF
  ·exact cF
  ·rw[nS cF] at ae;cases ae
 have Bg:=h.new id L bD ar py;have jI:∀r,({w with heap:=w.heap.setIfInBounds L.r o'}:World).heap[r]?=if r=L.r then some o' else w.heap[r]?:=fun r=>by
  show(w.heap.setIfInBounds L.r o')[r]?=_;rw[sZ];by_cases ap:L.r=r
  ·subst ap;simp[ED]
  ·rw[a1 ap,a1 (Ne.symm ap)]
 have jK:∀x c e f z s,H'.mem.get x=some (.row c e true f z s)->∃bo bl fv c1,H.mem.get x=some (.row bo bl true f fv c1)/\bo.length=c.length:=fun x c e f z s hm=>by
  by_cases hg:x=id
  ·subst hg;rw[vu] at hm;injection hm with hm
   exact dd c e f z s hm
  ·rcases bB x hg with q|q
   ·rw[q] at hm;exact⟨c,e,z,s,hm,rfl⟩
   ·rw[q.1] at hm;cases hm
 refine⟨⟨⟨h.below.os,h.below.tape,h.below.output,?_,?_⟩,?_,?_,?_,?_,?_,?_,?_,?_,?_,?_,?_⟩,⟨Ext.refl _,by omega,cr,?_⟩⟩
 ·show w0.heap.size<=(w.heap.setIfInBounds L.r o').size;rw[Ag];exact h.below.size
 ·intro k hk;rw[jI,a1 (fun e=>by subst e;exact Bg hk)];exact h.below.block k hk
 ·intro k hk;show k<(w.heap.setIfInBounds L.r o').size;rw[Ag];exact h.kj k hk
 ·intro x bn j;by_cases hg:x=id
  ·subst hg;rw[bD] at j;injection j with j;subst j
   exact⟨b',o',vu,by rw[jI];simp,af⟩
  ·by_cases ap:bn.r=L.r
   ·exact⟨.dead,o',Rp x bn hg j ap,by rw[jI,bs ap],by simp[hl]⟩
   ·obtain⟨b,o,dG,iN,kw⟩:=h.eG x bn j;rcases bB x hg with q|q
    ·exact⟨b,o,by rw[q];exact dG,by rw[jI,a1 ap];exact iN,kw⟩
    ·exact⟨.dead,o,q.1,by rw[jI,a1 ap];exact iN,by cases o<;>simp[hl]⟩
 ·intro x y fL fU dy j aC ko;rcases h.sep x y fL fU dy j aC ko with d|d|⟨f,l,q,cR,aw,cM,gz⟩
  ·exact .inl (mA x d)
  ·exact .inr (.inl (mA y d))
  ·rcases kM x f q with d|q
   ·exact .inl d
   ·rcases kM y f cR with d|cR
    ·exact .inr (.inl d)
    ·rcases DW f l aw with cY|iV
     ·exact .inr (.inr ⟨f,l,q,cR,cY,cM,gz⟩)
     ·rcases iV x y cM gz dy with d|d
      ·exact .inl d
      ·exact .inr (.inl d)
 ·intro x bn j;rw[aA];exact h.lt x bn j
 ·intro x bn j gr;rw[cr] at gr;exact h.own x bn j gr
 ·intro x bn j gr dk;rw[cr] at gr;exact h.new x bn j gr fun q=>dk (mA x q)
 ·intro g c e o f z s r7 hm;rw[cr] at r7;have dV:g≠id:=by omega
  rcases bB g dV with q|q
  ·rw[q] at hm;exact h.oa g c e o f z s r7 hm
  ·rw[q.1] at hm;cases hm
 ·rw[cr,aA];exact h.hV
 ·intro x c e f z s hm;rw[aW];by_cases hg:x=id
  ·subst hg;rw[vu] at hm;injection hm with hm
   obtain⟨bo,bl,fv,c1,cR,_⟩:=dd c e f z s hm;exact h.mu _ _ _ _ _ _ cR
  ·rcases bB x hg with q|q
   ·rw[q] at hm;exact h.mu x c e f z s hm
   ·rw[q.1] at hm;cases hm
 ·intro f l x aw j;rw[aA];rcases x7 f l aw with aw|⟨rfl,ae⟩
  ·obtain⟨a,d⟩:=h.im f l x aw j;refine⟨a,?_⟩;rcases d with d|d
   ·by_cases hg:x=id
    ·subst hg;left;rw[vu];exact KK d
    ·rcases bB x hg with q|q
     ·left;rw[q];exact d
     ·right;exact q.1
   ·right;exact mA x d
  ·simp at j;subst j;exact⟨h.lt _ _ bD,.inl (by rw[vu];exact ae)⟩
 ·intro f l aw;rcases x7 f l aw with aw|⟨rfl,_⟩
  ·refine(h.pk f l aw).imp ?_;intro x y dy c e f z s bo bl cd fv c1 q cR;obtain⟨bE,n8,dw,s1,aQ,aP⟩:=jK x c e f z s q;obtain⟨b8,abf,dZ,s2,bC,dp⟩:=jK y bo bl cd fv c1 cR;have:=dy _ _ _ _ _ _ _ _ _ _ aQ bC;omega
  ·exact OQ _ _
 ·intro x j gV;refine⟨gV,fun ae=>?_⟩;have hg:x≠id:=fun e=>by subst e;rw[bD] at gV;cases gV
  rcases bB x hg with q|q
  ·exact q
  ·rcases q.2 with r|r
   ·rw[ae] at r;cases r
   ·rw[q.1,r]
theorem bz.kill(h:bz P B w0 μ H w)(aA:H'.av=H.av)(aW:H'.bM=H.bM)(cr:H'.bf=H.bf)
 (bB:∀x,H'.mem.get x=H.mem.get x\/(H'.mem.get x=some .dead/\(hM (H.mem.get x)=true\/H.mem.get x=some .dead)))
 (DW:∀f l,H.ba.get f=some l->∃l',H'.ba.get f=some l'/\l'.Sublist l/\∀x,x∈l->x∉l'->H'.mem.get x=some .dead)
 (x7:∀f l',H'.ba.get f=some l'->∃l,H.ba.get f=some l/\l'.Sublist l):
 bz P B w0 μ H' w/\Step μ μ H H':=by
 have mA:∀x,H.mem.get x=some .dead->H'.mem.get x=some .dead:=fun x j=>by
  rcases bB x with q|q
  ·rw[q,j]
  ·exact q.1
 have kM:∀x f,qY H x f->H'.mem.get x=some .dead\/qY H' x f:=fun x f j=>by
  obtain⟨c,e,z,s,q⟩:=j;rcases bB x with p|p
  ·right;exact⟨c,e,z,s,by rw[p];exact q⟩
  ·left;exact p.1
 have jK:∀x c e f z s,H'.mem.get x=some (.row c e true f z s)->H.mem.get x=some (.row c e true f z s):=fun x c e f z s hm=>by
  rcases bB x with q|q
  ·rw[q] at hm;exact hm
  ·rw[q.1] at hm;cases hm
 refine⟨⟨h.below,h.kj,?_,?_,?_,?_,?_,?_,?_,?_,?_,?_⟩,⟨Ext.refl _,by omega,cr,?_⟩⟩
 ·intro x bn j;obtain⟨b,o,dG,iN,kw⟩:=h.eG x bn j;rcases bB x with q|q
  ·exact⟨b,o,by rw[q];exact dG,iN,kw⟩
  ·exact⟨.dead,o,q.1,iN,by cases o<;>simp[hl]⟩
 ·intro x y fL fU dy j aC ko;rcases h.sep x y fL fU dy j aC ko with d|d|⟨f,l,q,cR,aw,cM,gz⟩
  ·exact .inl (mA x d)
  ·exact .inr (.inl (mA y d))
  ·rcases kM x f q with d|q
   ·exact .inl d
   ·rcases kM y f cR with d|cR
    ·exact .inr (.inl d)
    ·obtain⟨l',U,_,aV⟩:=DW f l aw;by_cases jL:x∈l'
     ·by_cases zb:y∈l'
      ·exact .inr (.inr ⟨f,l',q,cR,U,jL,zb⟩)
      ·exact .inr (.inl (aV y gz zb))
     ·exact .inl (aV x cM jL)
 ·intro x bn j;rw[aA];exact h.lt x bn j
 ·intro x bn j gr;rw[cr] at gr;exact h.own x bn j gr
 ·intro x bn j gr dk;rw[cr] at gr;exact h.new x bn j gr fun q=>dk (mA x q)
 ·intro g c e o f z s r7 hm;rw[cr] at r7;rcases bB g with q|q
  ·rw[q] at hm;exact h.oa g c e o f z s r7 hm
  ·rw[q.1] at hm;cases hm
 ·rw[cr,aA];exact h.hV
 ·intro x c e f z s hm;rw[aW];exact h.mu x c e f z s (jK x c e f z s hm)
 ·intro f l x aw j;rw[aA];obtain⟨l0,U,ab⟩:=x7 f l aw;obtain⟨a,d⟩:=h.im f l0 x U (ab.mem j);refine⟨a,?_⟩;rcases bB x with q|q
  ·rw[q];exact d
  ·right;exact q.1
 ·intro f l aw;obtain⟨l0,U,ab⟩:=x7 f l aw;refine((h.pk f l0 U).sublist ab).imp ?_;intro x y dy c e f z s bo bl cd fv c1 q cR;exact dy _ _ _ _ _ _ _ _ _ _ (jK _ _ _ _ _ _ q) (jK _ _ _ _ _ _ cR)
 ·intro x j gV;refine⟨gV,fun ae=>?_⟩;rcases bB x with q|q
  ·exact q
  ·rcases q.2 with r|r
   ·rw[ae] at r;cases r
   ·rw[q.1,r]
theorem Ng(h:bz P B w0 μ H w){f:Nat}{l l0:List Nat}{cells:List Value}{elem:TypeId}{du:Nat}{sh:Bool}(aw:H.ba.get f=some l0)(mI:l.Sublist l0)
 (b5:∀m,H'.mem.get m=if m=H.av then some (.row cells elem true f du sh) else H.mem.get m)
 (hc:∀m,H'.ba.get m=if m=f then some (H.av::l) else H.ba.get m)(qQ:∀y∈l,∀c e f z s,H.mem.get y=some (.row c e true f z s)->c.length<=cells.length):
 ∀cd l',H'.ba.get cd=some l'->Dg H' l':=by
 have Mj:∀cd l',H.ba.get cd=some l'->Dg H' l':=fun cd l' cY=>by
  refine(h.pk cd l' cY).imp_of_mem ?_;intro x y j aC dy c e f1 z s bo bl f2 fv c1 q cR;have gr:=(h.im cd l' x cY j).1;have FO:=(h.im cd l' y cY aC).1;rw[b5,a1 (by omega)] at q cR;exact dy _ _ _ _ _ _ _ _ _ _ q cR
 intro cd l' cY;rw[hc] at cY;split at cY
 ·injection cY with cY;subst cY
  refine List.pairwise_cons.2 ⟨fun y aC c e f1 z s bo bl f2 fv c1 q cR=>?_,(Mj f l0 aw).sublist mI⟩;have FO:=(h.im f l0 y aw (mI.mem aC)).1;rw[b5,bs rfl] at q;rw[b5,a1 (by omega)] at cR;injection q with q;injection q with q;subst q
  exact qQ y aC _ _ _ _ _ cR
 ·exact Mj cd l' cY
theorem bz.ME(h:bz P B w0 μ H w){f:Nat}{l l0:List Nat}{cells:List Value}{elem:TypeId}{du:Nat}{sh:Bool}{o:Obj}{L:Loc}(aw:H.ba.get f=some l0)(mI:l.Sublist l0)(yY:∀x,x∈l0->x∉l->H.mem.get x=some .dead)(ay:f<H.bM)
 (aA:H'.av=H.av+1)(aW:H'.bM=H.bM)(dU:H'.bf=H.bf)(b5:∀m,H'.mem.get m=if m=H.av then some (.row cells elem true f du sh) else H.mem.get m)
 (hc:∀m,H'.ba.get m=if m=f then some (H.av::l) else H.ba.get m)(qQ:∀y∈l,∀c e f z s,H.mem.get y=some (.row c e true f z s)->c.length<=cells.length)
 (ap:L.r=w.heap.size)(af:hl P (μ.put H.av L) L (.row cells elem true f du sh) o):
 bz P B w0 (μ.put H.av L) H' (w.alloc o)/\Step μ (μ.put H.av L) H H':=by
 have hX:=h.pj L;have c3:∀x bn,(μ.put H.av L) x=some bn->x≠H.av->μ x=some bn:=fun x bn a b=>by rwa [bm.oP _ _ b] at a
 have cx:∀x bn,μ x=some bn->bn.r<w.heap.size:=fun x bn j=>by
  obtain⟨b',o',_,ae,_⟩:=h.eG x bn j;rcases gX bn.r w.heap.size with cF|cF
  ·exact cF
  ·rw[nS cF] at ae;cases ae
 refine⟨⟨h.below.alloc h.kj o,?_,?_,?_,?_,?_,?_,?_,?_,?_,?_,?_⟩,⟨hX,by omega,dU,?_⟩⟩
 ·intro k hk;have:=h.kj k hk;show k<(w.heap.push o).size;rw[HA];omega
 ·intro x bn j;by_cases cG:x=H.av
  ·subst cG;rw[bm.hC] at j;injection j with j;subst j
   exact⟨_,o,by rw[b5];simp,by rw[vV,ap];simp,af⟩
  ·have gr:=c3 x bn j cG;obtain⟨b',o',U,ab,aV⟩:=h.eG x bn gr;exact⟨b',o',by rw[b5,a1 cG];exact U,by rw[vV,a1 (by have:=cx x bn gr;omega)];exact ab,aV.mono hX⟩
 ·intro x y fL fU dy j aC ko;by_cases cG:x=H.av
  ·subst cG;rw[bm.hC] at j;injection j with j;subst j
   have:=cx y fU (c3 y fU aC (Ne.symm dy));omega
  ·by_cases ic:y=H.av
   ·subst ic;rw[bm.hC] at aC;injection aC with aC;subst aC
    have:=cx x fL (c3 x fL j cG);omega
   ·rcases h.sep x y fL fU dy (c3 x fL j cG) (c3 y fU aC ic) ko with d|d|⟨cd,l',⟨c,e,z,s,q⟩,⟨bo,bl,fv,c1,cR⟩,cY,cM,gz⟩
    ·exact .inl (by rw[b5,a1 cG];exact d)
    ·exact .inr (.inl (by rw[b5,a1 ic];exact d))
    ·by_cases lP:cd=f
     ·subst lP;rw[aw] at cY;injection cY with cY;subst cY
      by_cases e7:x∈l
      ·by_cases hh:y∈l
       ·exact .inr (.inr ⟨cd,H.av::l,⟨c,e,z,s,by rw[b5,a1 cG];exact q⟩,⟨bo,bl,fv,c1,by rw[b5,a1 ic];exact cR⟩,by rw[hc];simp,by simp[e7],by simp[hh]⟩)
       ·exact .inr (.inl (by rw[b5,a1 ic];exact yY y gz hh))
      ·exact .inl (by rw[b5,a1 cG];exact yY x cM e7)
     ·exact .inr (.inr ⟨cd,l',⟨c,e,z,s,by rw[b5,a1 cG];exact q⟩,⟨bo,bl,fv,c1,by rw[b5,a1 ic];exact cR⟩,by rw[hc,a1 lP];exact cY,cM,gz⟩)
 ·intro x bn j;by_cases cG:x=H.av
  ·omega
  ·have:=h.lt x bn (c3 x bn j cG);omega
 ·intro x bn j ar;rw[dU] at ar;have cG:x≠H.av:=by have:=h.hV;omega
  exact h.own x bn (c3 x bn j cG) ar
 ·intro x bn j ar dk;rw[dU] at ar;by_cases cG:x=H.av
  ·subst cG;rw[bm.hC] at j;injection j with j;subst j
   rw[ap];exact fun q=>tg _ (h.kj _ q)
  ·exact h.new x bn (c3 x bn j cG) ar (by rw[b5,a1 cG] at dk;exact dk)
 ·intro g c e o f z s ar hm;rw[dU] at ar;have tV:g≠H.av:=by have:=h.hV;omega
  rw[b5,a1 tV] at hm;obtain⟨bn,bD⟩:=h.oa g c e o f z s ar hm;exact⟨bn,hX _ _ bD⟩
 ·rw[dU,aA];have:=h.hV;omega
 ·intro x c e cd z s hm;rw[b5] at hm;split at hm
  ·injection hm with hm;injection hm with _ _ _ hm;omega
  ·have:=h.mu x c e cd z s hm;omega
 ·intro cd l' x cY j;rw[hc] at cY;split at cY
  ·injection cY with cY;subst cY
   simp at j;rcases j with j|j
   ·subst j;exact⟨by omega,.inl (by rw[b5];simp[hM])⟩
   ·obtain⟨a,d⟩:=h.im f l0 x aw (mI.mem j);exact⟨by omega,by rw[b5,a1 (by omega)];exact d⟩
  ·obtain⟨a,d⟩:=h.im cd l' x cY j;exact⟨by omega,by rw[b5,a1 (by omega)];exact d⟩
 ·exact Ng h aw mI b5 hc qQ
 ·intro x j gV;have cG:x≠H.av:=by omega
  exact⟨by rw[bm.oP _ _ cG];exact gV,fun _=>by rw[b5,a1 cG]⟩
theorem bz.XD(h:bz P B w0 μ H w){f id:Nat}{l l0:List Nat}{cells:List Value}{elem:TypeId}{du:Nat}{sh:Bool}{o o':Obj}{L:Loc}(aw:H.ba.get f=some l0)(mI:l.Sublist l0)(yY:∀x,x∈l0->x∉l->H.mem.get x=some .dead)(ay:f<H.bM)(bD:μ id=some L)(ar:H.bf<=id)(Bg:¬B L.r)
 (aA:H'.av=H.av+1)(aW:H'.bM=H.bM)(dU:H'.bf=H.bf)(b5:∀m,H'.mem.get m=if m=H.av then some (.row cells elem true f du sh) else H.mem.get m)
 (hc:∀m,H'.ba.get m=if m=f then some (H.av::l) else H.ba.get m)(qQ:∀y∈l,∀c e f z s,H.mem.get y=some (.row c e true f z s)->c.length<=cells.length)
 (qJ:∀y bn,μ y=some bn->bn.r=L.r->H.mem.get y=some .dead\/(qY H y f/\y∈l/\∃b,H.mem.get y=some b/\hl P μ bn b o'))
 (af:hl P μ L (.row cells elem true f du sh) o'):
 bz P B w0 (μ.put H.av L) H' {w with heap:=w.heap.setIfInBounds L.r o'}/\Step μ (μ.put H.av L) H H':=by
 have _:=o;have hX:=h.pj L;have c3:∀x bn,(μ.put H.av L) x=some bn->x≠H.av->μ x=some bn:=fun x bn a b=>by rwa [bm.oP _ _ b] at a
 have ED:L.r<w.heap.size:=by
  obtain⟨b,o,_,ae,_⟩:=h.eG id L bD;rcases gX L.r w.heap.size with cF|cF
  ·exact cF
  ·rw[nS cF] at ae;cases ae
 have jI:∀r,({w with heap:=w.heap.setIfInBounds L.r o'}:World).heap[r]?=if r=L.r then some o' else w.heap[r]?:=fun r=>by
  show(w.heap.setIfInBounds L.r o')[r]?=_;rw[sZ];by_cases ap:L.r=r
  ·subst ap;simp[ED]
  ·rw[a1 ap,a1 (Ne.symm ap)]
 have j9:qY H' H.av f:=⟨cells,elem,du,sh,by rw[b5];simp⟩;have TK:H'.ba.get f=some (H.av::l):=by rw[hc];simp
 have side:∀y fU,y≠H.av->μ y=some fU->fU.r=L.r->Hx H' H.av y:=fun y fU ic aC ko=>by
  rcases qJ y fU aC ko with d|⟨⟨c,e,z,s,q⟩,m,_⟩
  ·exact .inr (.inl (by rw[b5,a1 ic];exact d))
  ·exact .inr (.inr ⟨f,_,j9,⟨c,e,z,s,by rw[b5,a1 ic];exact q⟩,TK,by simp,by simp[m]⟩)
 refine⟨⟨⟨h.below.os,h.below.tape,h.below.output,?_,?_⟩,?_,?_,?_,?_,?_,?_,?_,?_,?_,?_,?_⟩,⟨hX,by omega,dU,?_⟩⟩
 ·show w0.heap.size<=(w.heap.setIfInBounds L.r o').size;rw[Ag];exact h.below.size
 ·intro k hk;rw[jI,a1 (fun e=>by subst e;exact Bg hk)];exact h.below.block k hk
 ·intro k hk;show k<(w.heap.setIfInBounds L.r o').size;rw[Ag];exact h.kj k hk
 ·intro x bn j;by_cases cG:x=H.av
  ·subst cG;rw[bm.hC] at j;injection j with j;subst j
   exact⟨_,o',by rw[b5];simp,by rw[jI];simp,af.mono hX⟩
  ·have gr:=c3 x bn j cG;by_cases ap:bn.r=L.r
   ·rcases qJ x bn gr ap with d|⟨_,_,b,aQ,aP⟩
    ·exact⟨.dead,o',by rw[b5,a1 cG];exact d,by rw[jI,bs ap],by cases o'<;>simp[hl]⟩
    ·exact⟨b,o',by rw[b5,a1 cG];exact aQ,by rw[jI,bs ap],aP.mono hX⟩
   ·obtain⟨b',l4,U,ab,aV⟩:=h.eG x bn gr;exact⟨b',l4,by rw[b5,a1 cG];exact U,by rw[jI,a1 ap];exact ab,aV.mono hX⟩
 ·intro x y fL fU dy j aC ko;by_cases cG:x=H.av
  ·subst cG;rw[bm.hC] at j;injection j with j;subst j
   exact side y fU (Ne.symm dy) (c3 y fU aC (Ne.symm dy)) ko.symm
  ·by_cases ic:y=H.av
   ·subst ic;rw[bm.hC] at aC;injection aC with aC;subst aC
    rcases side x fL cG (c3 x fL j cG) ko with d|d|⟨cd,l',q,cR,cY,cM,gz⟩
    ·exact .inr (.inl d)
    ·exact .inl d
    ·exact .inr (.inr ⟨cd,l',cR,q,cY,gz,cM⟩)
   ·rcases h.sep x y fL fU dy (c3 x fL j cG) (c3 y fU aC ic) ko with d|d|⟨cd,l',⟨c,e,z,s,q⟩,⟨bo,bl,fv,c1,cR⟩,cY,cM,gz⟩
    ·exact .inl (by rw[b5,a1 cG];exact d)
    ·exact .inr (.inl (by rw[b5,a1 ic];exact d))
    ·by_cases lP:cd=f
     ·subst lP;rw[aw] at cY;injection cY with cY;subst cY
      by_cases e7:x∈l
      ·by_cases hh:y∈l
       ·exact .inr (.inr ⟨cd,H.av::l,⟨c,e,z,s,by rw[b5,a1 cG];exact q⟩,⟨bo,bl,fv,c1,by rw[b5,a1 ic];exact cR⟩,by rw[hc];simp,by simp[e7],by simp[hh]⟩)
       ·exact .inr (.inl (by rw[b5,a1 ic];exact yY y gz hh))
      ·exact .inl (by rw[b5,a1 cG];exact yY x cM e7)
     ·exact .inr (.inr ⟨cd,l',⟨c,e,z,s,by rw[b5,a1 cG];exact q⟩,⟨bo,bl,fv,c1,by rw[b5,a1 ic];exact cR⟩,by rw[hc,a1 lP];exact cY,cM,gz⟩)
 ·intro x bn j;by_cases cG:x=H.av
  ·omega
  ·have:=h.lt x bn (c3 x bn j cG);omega
 ·intro x bn j ar;rw[dU] at ar;have cG:x≠H.av:=by have:=h.hV;omega
  exact h.own x bn (c3 x bn j cG) ar
 ·intro x bn j ar dk;rw[dU] at ar;by_cases cG:x=H.av
  ·subst cG;rw[bm.hC] at j;injection j with j;subst j
   exact Bg
  ·exact h.new x bn (c3 x bn j cG) ar (by rw[b5,a1 cG] at dk;exact dk)
 ·intro g c e o f z s ar hm;rw[dU] at ar;have tV:g≠H.av:=by have:=h.hV;omega
  rw[b5,a1 tV] at hm;obtain⟨bn,bD⟩:=h.oa g c e o f z s ar hm;exact⟨bn,hX _ _ bD⟩
 ·rw[dU,aA];have:=h.hV;omega
 ·intro x c e cd z s hm;rw[b5] at hm;split at hm
  ·injection hm with hm;injection hm with _ _ _ hm;omega
  ·have:=h.mu x c e cd z s hm;omega
 ·intro cd l' x cY j;rw[hc] at cY;split at cY
  ·injection cY with cY;subst cY
   simp at j;rcases j with j|j
   ·subst j;exact⟨by omega,.inl (by rw[b5];simp[hM])⟩
   ·obtain⟨a,d⟩:=h.im f l0 x aw (mI.mem j);exact⟨by omega,by rw[b5,a1 (by omega)];exact d⟩
  ·obtain⟨a,d⟩:=h.im cd l' x cY j;exact⟨by omega,by rw[b5,a1 (by omega)];exact d⟩
 ·exact Ng h aw mI b5 hc qQ
 ·intro x j gV;have cG:x≠H.av:=by omega
  exact⟨by rw[bm.oP _ _ cG];exact gV,fun _=>by rw[b5,a1 cG]⟩
theorem B0{lg:Nat}:∀{l:List Nat} {H H':ah},nA H lg l=some H'->H'.av=H.av/\H'.ba=H.ba/\H'.bM=H.bM/\H'.bf=H.bf/\
 (∀x,x∈l->x≠lg->H'.mem.get x=some .dead)/\(∀x,x∉l\/x=lg->H'.mem.get x=H.mem.get x):=by
 intro l;induction l with
 |nil=>intro H H' h;simp[nA] at h;subst h;exact⟨rfl,rfl,rfl,rfl,fun x j=>by simp at j,fun x _=>rfl⟩
 |cons y l aN=>
  intro H H' h;simp only[nA] at h;cases aC:Nat.beq y lg with
  |true=>
   rw[aC] at h;have zc:=dB aC;obtain⟨bP,bS,cE,c4,cO,ey⟩:=aN (by simpa using h);refine⟨bP,bS,cE,c4,fun x j dV=>?_,fun x j=>?_⟩
   ·simp at j;rcases j with rfl|j
    ·exact absurd zc dV
    ·exact cO x j dV
   ·refine ey x ?_;rcases j with j|j
    ·left;simp at j;exact j.2
    ·right;exact j
  |false=>
   rw[aC] at h;have zc:y≠lg:=fun e=>by subst e;simp at aC
   simp only[cZ] at h;cases hu:H.upd y .dead with
   |none=>rw[hu] at h;cases h
   |some H1=>
    rw[hu] at h;obtain⟨bV,b7,c5,dM,fF⟩:=ah.rm hu;obtain⟨bP,bS,cE,c4,cO,ey⟩:=aN h;refine⟨by omega,by rw[bS,b7],by omega,by omega,fun x j dV=>?_,fun x j=>?_⟩
    ·by_cases jL:x∈l
     ·exact cO x jL dV
     ·have dy:x=y:=by simp at j;rcases j with q|q;exact q;exact absurd q jL
      rw[ey x (.inl jL),fF,bs dy]
    ·have dy:x≠y:=by
      rcases j with q|q
      ·simp at q;exact q.1
      ·rw[q];exact Ne.symm zc
     have:x∉l\/x=lg:=by
      rcases j with q|q
      ·left;simp at q;exact q.2
      ·right;exact q
     rw[ey x this,fF,a1 dy]
theorem QA{id:Nat}:∀{l l':List Nat} {H H':ah},rV H id l=some (l',H')->H'.av=H.av/\H'.ba=H.ba/\H'.bM=H.bM/\H'.bf=H.bf/\l'.Sublist l/\id∈l'/\H'.mem.get id=H.mem.get id/\
 (∀x,x∈l->x∉l'->H'.mem.get x=some .dead)/\(∀x,H'.mem.get x=H.mem.get x\/(H'.mem.get x=some .dead/\x∈l))/\(∃pre,l=pre++l'/\l'=id::l'.tail):=by
 intro l;induction l with
 |nil=>intro l' H H' h;simp[rV] at h
 |cons y l aN=>
  intro l' H H' h;simp only[rV] at h;cases aC:Nat.beq y id with
  |true=>
   rw[aC,bH] at h;simp only[bL,cU] at h;obtain⟨rfl,rfl⟩:=h;have:=dB aC;subst this;exact⟨rfl,rfl,rfl,rfl,cl _,by simp,rfl,fun x a b=>absurd a b,fun x=>.inl rfl,[],rfl,rfl⟩
  |false=>
   rw[aC,cZ] at h;have zc:y≠id:=fun e=>by subst e;simp at aC
   cases hu:H.upd y .dead with
   |none=>rw[hu] at h;cases h
   |some H1=>
    rw[hu] at h;obtain⟨bV,b7,c5,dM,fF⟩:=ah.rm hu;obtain⟨bP,bS,cE,c4,cO,ey,gE,ij,jy,pre,vg,ti⟩:=aN h;refine⟨by omega,by rw[bS,b7],by omega,by omega,cO.cons _,ey,by rw[gE,fF,a1 (Ne.symm zc)],fun x j jL=>?_,fun x=>?_,y::pre,by rw[vg];rfl,ti⟩
    ·by_cases gr:x∈l
     ·exact ij x gr jL
     ·have dy:x=y:=by simp at j;rcases j with q|q;exact q;exact absurd q gr
      rcases jy x with q|q
      ·rw[q,fF,bs dy]
      ·exact q.1
    ·rcases jy x with q|q
     ·rw[fF] at q;split at q
      ·rename_i dy;exact .inr ⟨q,by simp[dy]⟩
      ·exact .inl q
     ·exact .inr ⟨q.1,by simp[q.2]⟩
end
end
end Go.Cre

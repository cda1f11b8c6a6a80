/- A part of the proof of TableLosses. -/
import Derived.Test.YtjbbbehaciogcaaGreatDoorCab
import Derived.Laws.Append
import Derived.Laws.AppendOwn
import Derived.Laws.IdiomCopy
set_option linter.unusedVariables false
set_option linter.unusedSimpArgs false
namespace Go.Cre
noncomputable section
open Go.RowKit
def Q1(N d':Nat)(sh:Bool)(f:Nat×Nat):Prop:=(∀off,off<N->f.1<=off->off<f.2->off<d')/\(sh=false->f.1=f.2\/f.2<=d')
inductive w6 (μ:bY):List MapEntry->List MapEntry->Prop
 |nil:w6 μ [] []
 |cons (e bD:MapEntry) (es m1:List MapEntry):bD.key=e.key->plain e.key=true->bj μ e.val bD.val->w6 μ es m1->w6 μ (e::es) (bD::m1)
def AV(μ:bY)(es m1:List MapEntry):Prop:=∃l,l.Perm m1/\w6 μ es l
theorem w6.mono{μ bh:bY}{l m:List MapEntry}(h:w6 μ l m)(e:Ext μ bh):w6 bh l m:=by
 induction h with
 |nil=>exact .nil
 |cons a b es m1 ad ae aD _ aP=>exact .cons a b es m1 ad ae (aD.mono e) aP
theorem w6.length{μ:bY}{l m:List MapEntry}(h:w6 μ l m):l.length=m.length:=by
 induction h with
 |nil=>rfl
 |cons a b es m1 ad ae aD _ aP=>simp[aP]
theorem AV.length{μ:bY}{l m:List MapEntry}(h:AV μ l m):l.length=m.length:=by
 obtain⟨k,ad,ae⟩:=h;rw[ae.length,ad.length_eq]
theorem AV.nil(μ:bY):AV μ [] []:=⟨[],.refl _,.nil⟩
def kF(μ:bY)(T:a0 Value)(n:Nat)(tmps:Array Value):Prop:=n<=tmps.size/\∀t v,T.get t=some v->bj μ v (tmps.getD t undef)
def kf(P:Program)(μ:bY)(L:Loc):fB->Obj->Prop
 |.row cells elem opn _ d' sh,.cells c e f=>e=elem/\c.size=L.N/\P.cellsOf elem=L.sz/\cells.length<=L.N/\(opn=false->cells.length=L.N)/\
  (∀(i:Nat) v v',cells[i]?=some v->c[i]?=some v'->bj μ v v')/\Q1 L.N d' sh f
 |.map es _,.map m1 _=>AV μ es m1.toList
 |.loop l,.loop l'=>l'.state=l.state/\l'.pending=l.pending/\l'.params.toList=l.params/\l'.assign=l.assign/\l'.body=l.body/\kF μ l.T l.n l'.tmps/\∃bX,μ l.gP=some bX/\l'.defers=bX.r/\∃fn,P.funcs[l'.fn]?=some fn
 |.gP ds,.deferred fg=>fg=ds/\(ds=some []\/ds=none)
 |.dead,_=>True
 |_,_=>False
theorem kF.mono{μ bh:bY}{T:a0 Value}{n:Nat}{tmps:Array Value}(h:kF μ T n tmps)(e:Ext μ bh):kF bh T n tmps:=⟨h.1,fun t v x=>(h.2 t v x).mono e⟩
theorem kf.mono{P:Program}{μ bh:bY}{L:Loc}{b:fB}{o:Obj}(h:kf P μ L b o)(e:Ext μ bh):kf P bh L b o:=by
 cases b with
 |row cells elem opn bF d' sh=>
  cases o with
  |cells c bD f=>obtain⟨ad,ae,aD,a6,eM,fH,oC⟩:=h;exact⟨ad,ae,aD,a6,eM,fun i v v' a b=>(fH i v v' a b).mono e,oC⟩
  |_=>exact h
 |map es clock=>
  cases o with
  |map m1 Lw=>obtain⟨l,ad,ae⟩:=h;exact⟨l,ad,ae.mono e⟩
  |_=>exact h
 |loop l=>
  cases o with
  |loop l'=>obtain⟨ad,ae,aD,a6,eM,fH,bX,oC,Ey⟩:=h;exact⟨ad,ae,aD,a6,eM,fH.mono e,bX,e _ _ oC,Ey⟩
  |_=>exact h
 |gP ds=>
  cases o with
  |deferred fg=>exact h
  |_=>exact h
 |dead=>cases o<;>trivial
def kI:Option fB->Bool
 |some (.row _ _ opn _ _ _)=>opn
 |_=>false
def yv(H:ar)(id f:Nat):Prop:=∃c e z s,H.mem.get id=some (.row c e true f z s)
def VE(H:ar)(id mC:Nat):Prop:=
 H.mem.get id=some .dead\/H.mem.get mC=some .dead\/∃f l,yv H id f/\yv H mC f/\H.bF.get f=some l/\id∈l/\mC∈l
def Pf(H:ar)(l:List Nat):Prop:=
 l.Pairwise fun x y=>∀c e f z s c' bD cF hF cM,H.mem.get x=some (.row c e true f z s)->H.mem.get y=some (.row c' bD true cF hF cM)->c'.length<=c.length
structure Kept (B:Nat->Prop) (w a8:World):Prop where
 os:a8.os=w.os
 tape:a8.tape=w.tape
 output:a8.output=w.output
 size:w.heap.size<=a8.heap.size
 block:∀k,B k->a8.heap[k]?=w.heap[k]?
theorem Kept.refl(B:Nat->Prop)(w:World):Kept B w w:=⟨rfl,rfl,rfl,bU _,fun _ _=>rfl⟩
theorem Kept.trans{B:Nat->Prop}{a b c:World}(h:Kept B a b)(k:Kept B b c):Kept B a c:=
 ⟨k.os.trans h.os,k.tape.trans h.tape,k.output.trans h.output,cX h.size k.size,fun i ak=>(k.block i ak).trans (h.block i ak)⟩
theorem Kept.drew{B:Nat->Prop}{a w:World}(h:Kept B a w):Kept B a w.drew:=⟨h.os,h.tape,h.output,h.size,h.block⟩
theorem Kept.alloc{B:Nat->Prop}{a w:World}(h:Kept B a w)(ea:∀k,B k->k<w.heap.size)(o:Obj):Kept B a (w.alloc o):=
 h.trans ⟨rfl,rfl,rfl,by simp,fun k hk=>Below.heap_alloc _ _ _ (ea k hk)⟩
theorem Kept.below{n:Nat}{w a8:World}(h:Kept (fun k=>k<n) w a8):Below n w a8:=⟨h.os,h.tape,h.output,h.size,h.block⟩
theorem Kept.arP{n:Nat}{B:Nat->Prop}{w a8:World}(h:Below n w a8)(ea:∀k,B k->k<n):Kept B w a8:=⟨h.os,h.tape,h.output,h.size,fun k hk=>h.block k (ea k hk)⟩
structure b8 (P:Program) (B:Nat->Prop) (w0:World) (μ:bY) (H:ar) (w:World):Prop where
 below:Kept B w0 w
 ov:∀k,B k->k<w.heap.size
 gC:∀id L,μ id=some L->∃b o,H.mem.get id=some b/\w.heap[L.r]?=some o/\kf P μ L b o
 sep:∀id mC L bX,id≠mC->μ id=some L->μ mC=some bX->L.r=bX.r->VE H id mC
 lt:∀id L,μ id=some L->id<H.an
 own:∀id L,μ id=some L->id<H.bL->L.r=id
 new:∀id L,μ id=some L->H.bL<=id->H.mem.get id≠some .dead->¬B L.r
 ue:∀g c e o f z s,g<H.bL->H.mem.get g=some (.row c e o f z s)->∃L,μ g=some L
 kZ:H.bL<=H.an
 rM:∀id c e f z s,H.mem.get id=some (.row c e true f z s)->f<H.cy
 lK:∀f l x,H.bF.get f=some l->x∈l->x<H.an/\(kI (H.mem.get x)=true\/H.mem.get x=some .dead)
 vW:∀f l,H.bF.get f=some l->Pf H l
structure Step (μ bh:bY) (H H':ar):Prop where
 ext:Ext μ bh
 an:H.an<=H'.an
 bL:H'.bL=H.bL
 gn:∀id,id<H.an->μ id=none->bh id=none/\(kI (H.mem.get id)=false->H'.mem.get id=H.mem.get id)
theorem Step.refl(μ:bY)(H:ar):Step μ μ H H:=⟨Ext.refl μ,bU _,rfl,fun _ _ h=>⟨h,fun _=>rfl⟩⟩
theorem Step.trans{μ fA jU:bY}{H H1 bW:ar}(h:Step μ fA H H1)(k:Step fA jU H1 bW):Step μ jU H bW:=
 ⟨h.ext.trans k.ext,cX h.an k.an,k.bL.trans h.bL,fun id ak aE=>by
  obtain⟨a,b⟩:=h.gn id ak aE;obtain⟨c,d⟩:=k.gn id (iM ak h.an) a;exact⟨c,fun ah=>by rw[d (by rw[b ah];exact ah),b ah]⟩⟩
theorem ar.rn{H H':ar}{id:Nat}{b:fB}(h:H.upd id b=some H'):H'.an=H.an/\H'.bF=H.bF/\H'.cy=H.cy/\H'.bL=H.bL/\∀m,H'.mem.get m=if m=id then some b else H.mem.get m:=by
 obtain⟨mem,an,bF,cy,bL⟩:=H;simp only[ar.upd] at h;cases aw:a0.put b mem id with
 |none=>rw[aw] at h;cases h
 |some m=>rw[aw] at h;injection h with h;subst h;exact⟨rfl,rfl,rfl,rfl,a0.get_put aw⟩
theorem ar.pp{H H':ar}{id:Nat}{b:fB}(h:H.new b=some (id,H')):id=H.an/\H'.an=H.an+1/\H'.bF=H.bF/\H'.cy=H.cy/\H'.bL=H.bL/\∀m,H'.mem.get m=if m=H.an then some b else H.mem.get m:=by
 obtain⟨mem,an,bF,cy,bL⟩:=H;simp only[ar.new] at h;cases aw:a0.put b mem an with
 |none=>rw[aw] at h;cases h
 |some m=>
  rw[aw] at h;simp only[ar.TU,ar.abU,cn,dr] at h;obtain⟨rfl,rfl⟩:=h;exact⟨rfl,rfl,rfl,rfl,rfl,a0.get_put aw⟩
theorem ar.FW{H H':ar}{f:Nat}{l:List Nat}(h:H.se f l=some H'):H'.an=H.an/\H'.mem=H.mem/\H'.cy=H.cy/\H'.bL=H.bL/\∀m,H'.bF.get m=if m=f then some l else H.bF.get m:=by
 obtain⟨mem,an,bF,cy,bL⟩:=H;simp only[ar.se] at h;cases aw:a0.put l bF f with
 |none=>rw[aw] at h;cases h
 |some m=>rw[aw] at h;injection h with h;subst h;exact⟨rfl,rfl,rfl,rfl,a0.get_put aw⟩
theorem ar.Nd{H H':ar}{f:Nat}(h:H.wH=some (f,H')):f=H.cy/\H'.an=H.an/\H'.mem=H.mem/\H'.cy=H.cy+1/\H'.bL=H.bL/\∀m,H'.bF.get m=if m=H.cy then some [H.an] else H.bF.get m:=by
 obtain⟨mem,an,bF,cy,bL⟩:=H;simp only[ar.wH] at h;cases aw:a0.put [an] bF cy with
 |none=>rw[aw] at h;cases h
 |some m=>
  rw[aw] at h;simp only[ar.TV,ar.abV,cn,dr] at h;obtain⟨rfl,rfl⟩:=h;exact⟨rfl,rfl,rfl,rfl,rfl,a0.get_put aw⟩
def bY.put(μ:bY)(id:Nat)(L:Loc):bY:=fun x=>if x=id then some L else μ x
theorem bY.kw(μ:bY)(id:Nat)(L:Loc):μ.put id L id=some L:=by simp[bY.put]
theorem bY.uS(μ:bY){id x:Nat}(L:Loc)(h:x≠id):μ.put id L x=μ x:=by simp[bY.put,h]
section
variable {P:Program}{B:Nat->Prop}{w0 w:World}{μ:bY}{H H':ar}
theorem b8.ab4(h:b8 P B w0 μ H w):μ H.an=none:=by
 cases aa:μ H.an with
 |none=>rfl
 |some L=>have:=h.lt _ _ aa;omega
theorem b8.vV(h:b8 P B w0 μ H w)(L:Loc):Ext μ (μ.put H.an L):=fun id bX aa=>by
 by_cases e:id=H.an
 ·subst e;rw[h.ab4] at aa;cases aa
 ·rw[bY.uS _ _ e];exact aa
theorem b8.drew(h:b8 P B w0 μ H w):b8 P B w0 μ H w.drew:=
 ⟨h.below.drew,h.ov,h.gC,h.sep,h.lt,h.own,h.new,h.ue,h.kZ,h.rM,h.lK,h.vW⟩
theorem b8.drawn(h:b8 P B w0 μ H w)(n:Nat):b8 P B w0 μ H {w with drawn:=n}:=
 ⟨⟨h.below.os,h.below.tape,h.below.output,h.below.size,h.below.block⟩,h.ov,h.gC,h.sep,h.lt,h.own,h.new,h.ue,h.kZ,h.rM,h.lK,h.vW⟩
theorem EL(w:World)(o:Obj)(r:Nat):(w.alloc o).heap[r]?=if r=w.heap.size then some o else w.heap[r]?:=by
 show(w.heap.push o)[r]?=_;rw[Array.getElem?_push]
theorem b8.abq(h:b8 P B w0 μ H w){b:fB}{o:Obj}{L:Loc}(ax:H'.an=H.an+1)(dS:H'.bL=H.bL)(cx:∀m,H'.mem.get m=if m=H.an then some b else H.mem.get m)
 (Ss:H.cy<=H'.cy)(pf:∀f l,H'.bF.get f=some l->H.bF.get f=some l\/(l=[H.an]/\kI (some b)=true))(anq:∀f l,f<H.cy->H.bF.get f=some l->H'.bF.get f=some l)
 (aob:∀c e f z s,b=.row c e true f z s->f<H'.cy)(ao:L.r=w.heap.size)(ai:kf P (μ.put H.an L) L b o):
 b8 P B w0 (μ.put H.an L) H' (w.alloc o)/\Step μ (μ.put H.an L) H H':=by
 have k1:=h.vV L;have ed:∀x bX,(μ.put H.an L) x=some bX->x≠H.an->μ x=some bX:=fun x bX a b=>by rwa [bY.uS _ _ b] at a
 have cD:∀x bX,μ x=some bX->bX.r<w.heap.size:=fun x bX aa=>by
  obtain⟨b',o',_,ah,_⟩:=h.gC x bX aa;rcases hH bX.r w.heap.size with dh|dh
  ·exact dh
  ·rw[tw dh] at ah;cases ah
 refine⟨⟨h.below.alloc h.ov o,?_,?_,?_,?_,?_,?_,?_,?_,?_,?_,?_⟩,⟨k1,by omega,dS,?_⟩⟩
 ·intro k hk;have:=h.ov k hk;show k<(w.heap.push o).size;rw[VH];omega
 ·intro x bX aa;by_cases dy:x=H.an
  ·subst dy;rw[bY.kw] at aa;injection aa with aa;subst aa
   exact⟨b,o,by rw[cx];simp,by rw[EL,ao];simp,ai⟩
  ·have e7:=ed x bX aa dy;obtain⟨b',o',ad,ae,aD⟩:=h.gC x bX e7;exact⟨b',o',by rw[cx,aQ dy];exact ad,by rw[EL,aQ (by have:=cD x bX e7;omega)];exact ae,aD.mono k1⟩
 ·intro x y gH hB eN aa ap oK;by_cases dy:x=H.an
  ·subst dy;rw[bY.kw] at aa;injection aa with aa;subst aa
   have:=cD y hB (ed y hB ap (Ne.symm eN));omega
  ·by_cases lq:y=H.an
   ·subst lq;rw[bY.kw] at ap;injection ap with ap;subst ap
    have:=cD x gH (ed x gH aa dy);omega
   ·rcases h.sep x y gH hB eN (ed x gH aa dy) (ed y hB ap lq) oK with d|d|⟨f,l,⟨c,e,z,s,q⟩,⟨c',bD,hF,cM,dG⟩,aq,cW,eE⟩
    ·exact .inl (by rw[cx,aQ dy];exact d)
    ·exact .inr (.inl (by rw[cx,aQ lq];exact d))
    ·exact .inr (.inr ⟨f,l,⟨c,e,z,s,by rw[cx,aQ dy];exact q⟩,⟨c',bD,hF,cM,by rw[cx,aQ lq];exact dG⟩,anq f l (h.rM _ _ _ _ _ _ q) aq,cW,eE⟩)
 ·intro x bX aa;by_cases dy:x=H.an
  ·omega
  ·have:=h.lt x bX (ed x bX aa dy);omega
 ·intro x bX aa ay;rw[dS] at ay;have dy:x≠H.an:=by have:=h.kZ;omega
  exact h.own x bX (ed x bX aa dy) ay
 ·intro x bX aa ay eh;rw[dS] at ay;by_cases dy:x=H.an
  ·subst dy;rw[bY.kw] at aa;injection aa with aa;subst aa
   rw[ao];exact fun q=>A7 _ (h.ov _ q)
  ·exact h.new x bX (ed x bX aa dy) ay (by rw[cx,aQ dy] at eh;exact eh)
 ·intro g c e o f z s ay hm;rw[dS] at ay;have lN:g≠H.an:=by have:=h.kZ;omega
  rw[cx,aQ lN] at hm;obtain⟨bX,a9⟩:=h.ue g c e o f z s ay hm;exact⟨bX,k1 _ _ a9⟩
 ·rw[dS,ax];have:=h.kZ;omega
 ·intro x c e f z s hm;rw[cx] at hm;split at hm
  ·injection hm with hm;exact aob c e f z s hm
  ·exact iM (h.rM x c e f z s hm) Ss
 ·intro f l x aq aa;rcases pf f l aq with aq|⟨rfl,ah⟩
  ·obtain⟨a,d⟩:=h.lK f l x aq aa;have dy:x≠H.an:=by omega
   refine⟨by omega,?_⟩;rw[cx,aQ dy];exact d
  ·simp at aa;subst aa;exact⟨by omega,.inl (by rw[cx];simpa using ah)⟩
 ·intro f l aq;rcases pf f l aq with aq|⟨rfl,_⟩
  ·refine(h.vW f l aq).imp_of_mem ?_;intro x y aa ap eN c e f1 z s c' bD cF hF cM q dG;have e7:=(h.lK f l x aq aa).1;have Ae:=(h.lK f l y aq ap).1;rw[cx,aQ (by omega)] at q dG;exact eN c e _ z s c' bD cF hF cM q dG
  ·exact afP _ _
 ·intro x aa j7;have dy:x≠H.an:=by omega
  exact⟨by rw[bY.uS _ _ dy];exact j7,fun _=>by rw[cx,aQ dy]⟩
theorem b8.made(h:b8 P B w0 μ H w){id:Nat}{b:fB}{o:Obj}{L:Loc}(aE:H.new b=some (id,H'))(ah:kI (some b)=false)(ao:L.r=w.heap.size)(ai:kf P (μ.put H.an L) L b o):
 b8 P B w0 (μ.put H.an L) H' (w.alloc o)/\Step μ (μ.put H.an L) H H'/\id=H.an:=by
 obtain⟨rfl,ax,aS,cl,dS,cx⟩:=ar.pp aE;obtain⟨a,b⟩:=h.abq (H':=H') ax dS cx (by omega) (fun f l x=>.inl (by rw[<-aS];exact x)) (fun f l _ x=>by rw[aS];exact x) (fun c e f z s q=>by rw[q] at ah;simp[kI] at ah) ao ai;exact⟨a,b,rfl⟩
theorem b8.TJ(h:b8 P B w0 μ H w){id:Nat}{cells:List Value}{elem:TypeId}{sh:Bool}{o:Obj}{L:Loc}(aE:H.oO cells elem sh=some (id,H'))(ao:L.r=w.heap.size)
 (ai:∀f,kf P (μ.put H.an L) L (.row cells elem true f 0 sh) o):
 b8 P B w0 (μ.put H.an L) H' (w.alloc o)/\Step μ (μ.put H.an L) H H'/\id=H.an:=by
 unfold ar.oO at aE;cases aA:H.wH with
 |none=>rw[aA] at aE;cases aE
 |some p=>
  obtain⟨f,H1⟩:=p;rw[aA] at aE;obtain⟨rfl,ba,bd,cm,cQ,dw⟩:=ar.Nd aA;obtain⟨rfl,ax,aS,cl,dS,cx⟩:=ar.pp aE
  obtain⟨x,y⟩:=h.abq (H':=H') (b:=.row cells elem true H.cy 0 sh) (o:=o) (L:=L) (by omega) (by rw[dS,cQ]) (fun m=>by rw[cx,ba,bd]) (by omega)
   (fun f l aq=>by
    rw[aS,dw] at aq;split at aq
    ·injection aq with aq;exact .inr ⟨aq.symm,rfl⟩
    ·exact .inl aq)
   (fun f l aA aq=>by rw[aS,dw,aQ (by omega)];exact aq)
   (fun c e f z s q=>by injection q with _ _ _ q;omega) ao (ai _)
  exact⟨x,y,ba⟩
theorem b8.write(h:b8 P B w0 μ H w){id:Nat}{L:Loc}{b':fB}{o':Obj}(a9:μ id=some L)(ay:H.bL<=id)(wg:H.mem.get id≠some .dead)
 (ax:H'.an=H.an)(aS:H'.cy=H.cy)(cl:H'.bL=H.bL)(Ei:H'.mem.get id=some b')
 (bJ:∀x,x≠id->H'.mem.get x=H.mem.get x\/(H'.mem.get x=some .dead/\(kI (H.mem.get x)=true\/H.mem.get x=some .dead)))
 (aj7:∀x bX,x≠id->μ x=some bX->bX.r=L.r->H'.mem.get x=some .dead)
 (QA:∀f l,H.bF.get f=some l->H'.bF.get f=some l\/∀x y,x∈l->y∈l->x≠y->H'.mem.get x=some .dead\/H'.mem.get y=some .dead)
 (Hm:∀f l,H'.bF.get f=some l->H.bF.get f=some l\/(l=[id]/\kI (some b')=true))
 (eu:∀c e f z s,b'=.row c e true f z s->∃c' bD hF cM,H.mem.get id=some (.row c' bD true f hF cM)/\c'.length=c.length)
 (ZJ:kI (H.mem.get id)=true->kI (some b')=true)(ai:kf P μ L b' o'):
 b8 P B w0 μ H' {w with heap:=w.heap.setIfInBounds L.r o'}/\Step μ μ H H':=by
 have rR:∀x,H.mem.get x=some .dead->H'.mem.get x=some .dead:=fun x aa=>by
  have dX:x≠id:=fun e=>wg (e▸aa);rcases bJ x dX with q|q
  ·rw[q,aa]
  ·exact q.1
 have pf:∀x f,yv H x f->H'.mem.get x=some .dead\/yv H' x f:=fun x f aa=>by
  obtain⟨c,e,z,s,q⟩:=aa;by_cases jB:x=id
  ·subst jB;right
   have ah:=ZJ (by rw[q];rfl);cases b' with
   |row bb xP FD f1 e' s1=>
    simp only[kI] at ah;subst ah;obtain⟨c',bD,hF,cM,dG,_⟩:=eu bb xP f1 e' s1 rfl;rw[q] at dG;injection dG with dG;injection dG with _ _ _ atk;subst atk
    exact⟨bb,xP,e',s1,Ei⟩
   |_=>simp[kI] at ah
  ·rcases bJ x jB with p|p
   ·right;exact⟨c,e,z,s,by rw[p];exact q⟩
   ·left;exact p.1
 have Rw:L.r<w.heap.size:=by
  obtain⟨b,o,_,ah,_⟩:=h.gC id L a9;rcases hH L.r w.heap.size with dh|dh
  ·exact dh
  ·rw[tw dh] at ah;cases ah
 have LV:=h.new id L a9 ay wg;have fJ:∀r,({w with heap:=w.heap.setIfInBounds L.r o'}:World).heap[r]?=if r=L.r then some o' else w.heap[r]?:=fun r=>by
  show(w.heap.setIfInBounds L.r o')[r]?=_;rw[AU];by_cases ao:L.r=r
  ·subst ao;simp[Rw]
  ·rw[aQ ao,aQ (Ne.symm ao)]
 have mz:∀x c e f z s,H'.mem.get x=some (.row c e true f z s)->∃c' bD hF cM,H.mem.get x=some (.row c' bD true f hF cM)/\c'.length=c.length:=fun x c e f z s hm=>by
  by_cases jB:x=id
  ·subst jB;rw[Ei] at hm;injection hm with hm
   exact eu c e f z s hm
  ·rcases bJ x jB with q|q
   ·rw[q] at hm;exact⟨c,e,z,s,hm,rfl⟩
   ·rw[q.1] at hm;cases hm
 refine⟨⟨⟨h.below.os,h.below.tape,h.below.output,?_,?_⟩,?_,?_,?_,?_,?_,?_,?_,?_,?_,?_,?_⟩,⟨Ext.refl _,by omega,cl,?_⟩⟩
 ·show w0.heap.size<=(w.heap.setIfInBounds L.r o').size;rw[Kv];exact h.below.size
 ·intro k hk;rw[fJ,aQ (fun e=>by subst e;exact LV hk)];exact h.below.block k hk
 ·intro k hk;show k<(w.heap.setIfInBounds L.r o').size;rw[Kv];exact h.ov k hk
 ·intro x bX aa;by_cases jB:x=id
  ·subst jB;rw[a9] at aa;injection aa with aa;subst aa
   exact⟨b',o',Ei,by rw[fJ];simp,ai⟩
  ·by_cases ao:bX.r=L.r
   ·exact⟨.dead,o',aj7 x bX jB aa ao,by rw[fJ,aV ao],by simp[kf]⟩
   ·obtain⟨b,o,dg,gp,lu⟩:=h.gC x bX aa;rcases bJ x jB with q|q
    ·exact⟨b,o,by rw[q];exact dg,by rw[fJ,aQ ao];exact gp,lu⟩
    ·exact⟨.dead,o,q.1,by rw[fJ,aQ ao];exact gp,by cases o<;>simp[kf]⟩
 ·intro x y gH hB eN aa ap oK;rcases h.sep x y gH hB eN aa ap oK with d|d|⟨f,l,q,dG,aq,cW,eE⟩
  ·exact .inl (rR x d)
  ·exact .inr (.inl (rR y d))
  ·rcases pf x f q with d|q
   ·exact .inl d
   ·rcases pf y f dG with d|dG
    ·exact .inr (.inl d)
    ·rcases QA f l aq with dQ|ew
     ·exact .inr (.inr ⟨f,l,q,dG,dQ,cW,eE⟩)
     ·rcases ew x y cW eE eN with d|d
      ·exact .inl d
      ·exact .inr (.inl d)
 ·intro x bX aa;rw[ax];exact h.lt x bX aa
 ·intro x bX aa e7;rw[cl] at e7;exact h.own x bX aa e7
 ·intro x bX aa e7 eh;rw[cl] at e7;exact h.new x bX aa e7 fun q=>eh (rR x q)
 ·intro g c e o f z s wa hm;rw[cl] at wa;have dX:g≠id:=by omega
  rcases bJ g dX with q|q
  ·rw[q] at hm;exact h.ue g c e o f z s wa hm
  ·rw[q.1] at hm;cases hm
 ·rw[cl,ax];exact h.kZ
 ·intro x c e f z s hm;rw[aS];by_cases jB:x=id
  ·subst jB;rw[Ei] at hm;injection hm with hm
   obtain⟨c',bD,hF,cM,dG,_⟩:=eu c e f z s hm;exact h.rM _ _ _ _ _ _ dG
  ·rcases bJ x jB with q|q
   ·rw[q] at hm;exact h.rM x c e f z s hm
   ·rw[q.1] at hm;cases hm
 ·intro f l x aq aa;rw[ax];rcases Hm f l aq with aq|⟨rfl,ah⟩
  ·obtain⟨a,d⟩:=h.lK f l x aq aa;refine⟨a,?_⟩;rcases d with d|d
   ·by_cases jB:x=id
    ·subst jB;left;rw[Ei];exact ZJ d
    ·rcases bJ x jB with q|q
     ·left;rw[q];exact d
     ·right;exact q.1
   ·right;exact rR x d
  ·simp at aa;subst aa;exact⟨h.lt _ _ a9,.inl (by rw[Ei];exact ah)⟩
 ·intro f l aq;rcases Hm f l aq with aq|⟨rfl,_⟩
  ·refine(h.vW f l aq).imp ?_;intro x y eN c e f z s c' bD cF hF cM q dG;obtain⟨bb,xP,e',s1,aL,aG⟩:=mz x c e f z s q;obtain⟨br,ayr,fj,s2,bt,du⟩:=mz y c' bD cF hF cM dG;have:=eN _ _ _ _ _ _ _ _ _ _ aL bt;omega
  ·exact afP _ _
 ·intro x aa j7;refine⟨j7,fun ah=>?_⟩;have jB:x≠id:=fun e=>by subst e;rw[a9] at j7;cases j7
  rcases bJ x jB with q|q
  ·exact q
  ·rcases q.2 with r|r
   ·rw[ah] at r;cases r
   ·rw[q.1,r]
theorem b8.kill(h:b8 P B w0 μ H w)(ax:H'.an=H.an)(aS:H'.cy=H.cy)(cl:H'.bL=H.bL)
 (bJ:∀x,H'.mem.get x=H.mem.get x\/(H'.mem.get x=some .dead/\(kI (H.mem.get x)=true\/H.mem.get x=some .dead)))
 (QA:∀f l,H.bF.get f=some l->∃l',H'.bF.get f=some l'/\l'.Sublist l/\∀x,x∈l->x∉l'->H'.mem.get x=some .dead)
 (Hm:∀f l',H'.bF.get f=some l'->∃l,H.bF.get f=some l/\l'.Sublist l):
 b8 P B w0 μ H' w/\Step μ μ H H':=by
 have rR:∀x,H.mem.get x=some .dead->H'.mem.get x=some .dead:=fun x aa=>by
  rcases bJ x with q|q
  ·rw[q,aa]
  ·exact q.1
 have pf:∀x f,yv H x f->H'.mem.get x=some .dead\/yv H' x f:=fun x f aa=>by
  obtain⟨c,e,z,s,q⟩:=aa;rcases bJ x with p|p
  ·right;exact⟨c,e,z,s,by rw[p];exact q⟩
  ·left;exact p.1
 have mz:∀x c e f z s,H'.mem.get x=some (.row c e true f z s)->H.mem.get x=some (.row c e true f z s):=fun x c e f z s hm=>by
  rcases bJ x with q|q
  ·rw[q] at hm;exact hm
  ·rw[q.1] at hm;cases hm
 refine⟨⟨h.below,h.ov,?_,?_,?_,?_,?_,?_,?_,?_,?_,?_⟩,⟨Ext.refl _,by omega,cl,?_⟩⟩
 ·intro x bX aa;obtain⟨b,o,dg,gp,lu⟩:=h.gC x bX aa;rcases bJ x with q|q
  ·exact⟨b,o,by rw[q];exact dg,gp,lu⟩
  ·exact⟨.dead,o,q.1,gp,by cases o<;>simp[kf]⟩
 ·intro x y gH hB eN aa ap oK;rcases h.sep x y gH hB eN aa ap oK with d|d|⟨f,l,q,dG,aq,cW,eE⟩
  ·exact .inl (rR x d)
  ·exact .inr (.inl (rR y d))
  ·rcases pf x f q with d|q
   ·exact .inl d
   ·rcases pf y f dG with d|dG
    ·exact .inr (.inl d)
    ·obtain⟨l',ad,_,aD⟩:=QA f l aq;by_cases nz:x∈l'
     ·by_cases yo:y∈l'
      ·exact .inr (.inr ⟨f,l',q,dG,ad,nz,yo⟩)
      ·exact .inr (.inl (aD y eE yo))
     ·exact .inl (aD x cW nz)
 ·intro x bX aa;rw[ax];exact h.lt x bX aa
 ·intro x bX aa e7;rw[cl] at e7;exact h.own x bX aa e7
 ·intro x bX aa e7 eh;rw[cl] at e7;exact h.new x bX aa e7 fun q=>eh (rR x q)
 ·intro g c e o f z s wa hm;rw[cl] at wa;rcases bJ g with q|q
  ·rw[q] at hm;exact h.ue g c e o f z s wa hm
  ·rw[q.1] at hm;cases hm
 ·rw[cl,ax];exact h.kZ
 ·intro x c e f z s hm;rw[aS];exact h.rM x c e f z s (mz x c e f z s hm)
 ·intro f l x aq aa;rw[ax];obtain⟨l0,ad,ae⟩:=Hm f l aq;obtain⟨a,d⟩:=h.lK f l0 x ad (ae.mem aa);refine⟨a,?_⟩;rcases bJ x with q|q
  ·rw[q];exact d
  ·right;exact q.1
 ·intro f l aq;obtain⟨l0,ad,ae⟩:=Hm f l aq;refine((h.vW f l0 ad).sublist ae).imp ?_;intro x y eN c e f z s c' bD cF hF cM q dG;exact eN _ _ _ _ _ _ _ _ _ _ (mz _ _ _ _ _ _ q) (mz _ _ _ _ _ _ dG)
 ·intro x aa j7;refine⟨j7,fun ah=>?_⟩;rcases bJ x with q|q
  ·exact q
  ·rcases q.2 with r|r
   ·rw[ah] at r;cases r
   ·rw[q.1,r]
theorem adL(h:b8 P B w0 μ H w){f:Nat}{l l0:List Nat}{cells:List Value}{elem:TypeId}{d':Nat}{sh:Bool}(aq:H.bF.get f=some l0)(r3:l.Sublist l0)
 (cx:∀m,H'.mem.get m=if m=H.an then some (.row cells elem true f d' sh) else H.mem.get m)
 (iu:∀m,H'.bF.get m=if m=f then some (H.an::l) else H.bF.get m)(yg:∀y∈l,∀c e f z s,H.mem.get y=some (.row c e true f z s)->c.length<=cells.length):
 ∀cF l',H'.bF.get cF=some l'->Pf H' l':=by
 have acj:∀cF l',H.bF.get cF=some l'->Pf H' l':=fun cF l' dQ=>by
  refine(h.vW cF l' dQ).imp_of_mem ?_;intro x y aa ap eN c e f1 z s c' bD f2 hF cM q dG;have e7:=(h.lK cF l' x dQ aa).1;have Ae:=(h.lK cF l' y dQ ap).1;rw[cx,aQ (by omega)] at q dG;exact eN _ _ _ _ _ _ _ _ _ _ q dG
 intro cF l' dQ;rw[iu] at dQ;split at dQ
 ·injection dQ with dQ;subst dQ
  refine List.pairwise_cons.2 ⟨fun y ap c e f1 z s c' bD f2 hF cM q dG=>?_,(acj f l0 aq).sublist r3⟩;have Ae:=(h.lK f l0 y aq (r3.mem ap)).1;rw[cx,aV rfl] at q;rw[cx,aQ (by omega)] at dG;injection q with q;injection q with q;subst q
  exact yg y ap _ _ _ _ _ dG
 ·exact acj cF l' dQ
theorem b8.acM(h:b8 P B w0 μ H w){f:Nat}{l l0:List Nat}{cells:List Value}{elem:TypeId}{d':Nat}{sh:Bool}{o:Obj}{L:Loc}(aq:H.bF.get f=some l0)(r3:l.Sublist l0)(IE:∀x,x∈l0->x∉l->H.mem.get x=some .dead)(aA:f<H.cy)
 (ax:H'.an=H.an+1)(aS:H'.cy=H.cy)(dS:H'.bL=H.bL)(cx:∀m,H'.mem.get m=if m=H.an then some (.row cells elem true f d' sh) else H.mem.get m)
 (iu:∀m,H'.bF.get m=if m=f then some (H.an::l) else H.bF.get m)(yg:∀y∈l,∀c e f z s,H.mem.get y=some (.row c e true f z s)->c.length<=cells.length)
 (ao:L.r=w.heap.size)(ai:kf P (μ.put H.an L) L (.row cells elem true f d' sh) o):
 b8 P B w0 (μ.put H.an L) H' (w.alloc o)/\Step μ (μ.put H.an L) H H':=by
 have k1:=h.vV L;have ed:∀x bX,(μ.put H.an L) x=some bX->x≠H.an->μ x=some bX:=fun x bX a b=>by rwa [bY.uS _ _ b] at a
 have cD:∀x bX,μ x=some bX->bX.r<w.heap.size:=fun x bX aa=>by
  obtain⟨b',o',_,ah,_⟩:=h.gC x bX aa;rcases hH bX.r w.heap.size with dh|dh
  ·exact dh
  ·rw[tw dh] at ah;cases ah
 refine⟨⟨h.below.alloc h.ov o,?_,?_,?_,?_,?_,?_,?_,?_,?_,?_,?_⟩,⟨k1,by omega,dS,?_⟩⟩
 ·intro k hk;have:=h.ov k hk;show k<(w.heap.push o).size;rw[VH];omega
 ·intro x bX aa;by_cases dy:x=H.an
  ·subst dy;rw[bY.kw] at aa;injection aa with aa;subst aa
   exact⟨_,o,by rw[cx];simp,by rw[EL,ao];simp,ai⟩
  ·have e7:=ed x bX aa dy;obtain⟨b',o',ad,ae,aD⟩:=h.gC x bX e7;exact⟨b',o',by rw[cx,aQ dy];exact ad,by rw[EL,aQ (by have:=cD x bX e7;omega)];exact ae,aD.mono k1⟩
 ·intro x y gH hB eN aa ap oK;by_cases dy:x=H.an
  ·subst dy;rw[bY.kw] at aa;injection aa with aa;subst aa
   have:=cD y hB (ed y hB ap (Ne.symm eN));omega
  ·by_cases lq:y=H.an
   ·subst lq;rw[bY.kw] at ap;injection ap with ap;subst ap
    have:=cD x gH (ed x gH aa dy);omega
   ·rcases h.sep x y gH hB eN (ed x gH aa dy) (ed y hB ap lq) oK with d|d|⟨cF,l',⟨c,e,z,s,q⟩,⟨c',bD,hF,cM,dG⟩,dQ,cW,eE⟩
    ·exact .inl (by rw[cx,aQ dy];exact d)
    ·exact .inr (.inl (by rw[cx,aQ lq];exact d))
    ·by_cases q2:cF=f
     ·subst q2;rw[aq] at dQ;injection dQ with dQ;subst dQ
      by_cases dC:x∈l
      ·by_cases e8:y∈l
       ·exact .inr (.inr ⟨cF,H.an::l,⟨c,e,z,s,by rw[cx,aQ dy];exact q⟩,⟨c',bD,hF,cM,by rw[cx,aQ lq];exact dG⟩,by rw[iu];simp,by simp[dC],by simp[e8]⟩)
       ·exact .inr (.inl (by rw[cx,aQ lq];exact IE y eE e8))
      ·exact .inl (by rw[cx,aQ dy];exact IE x cW dC)
     ·exact .inr (.inr ⟨cF,l',⟨c,e,z,s,by rw[cx,aQ dy];exact q⟩,⟨c',bD,hF,cM,by rw[cx,aQ lq];exact dG⟩,by rw[iu,aQ q2];exact dQ,cW,eE⟩)
 ·intro x bX aa;by_cases dy:x=H.an
  ·omega
  ·have:=h.lt x bX (ed x bX aa dy);omega
 ·intro x bX aa ay;rw[dS] at ay;have dy:x≠H.an:=by have:=h.kZ;omega
  exact h.own x bX (ed x bX aa dy) ay
 ·intro x bX aa ay eh;rw[dS] at ay;by_cases dy:x=H.an
  ·subst dy;rw[bY.kw] at aa;injection aa with aa;subst aa
   rw[ao];exact fun q=>A7 _ (h.ov _ q)
  ·exact h.new x bX (ed x bX aa dy) ay (by rw[cx,aQ dy] at eh;exact eh)
 ·intro g c e o f z s ay hm;rw[dS] at ay;have lN:g≠H.an:=by have:=h.kZ;omega
  rw[cx,aQ lN] at hm;obtain⟨bX,a9⟩:=h.ue g c e o f z s ay hm;exact⟨bX,k1 _ _ a9⟩
 ·rw[dS,ax];have:=h.kZ;omega
 ·intro x c e cF z s hm;rw[cx] at hm;split at hm
  ·injection hm with hm;injection hm with _ _ _ hm;omega
  ·have:=h.rM x c e cF z s hm;omega
 ·intro cF l' x dQ aa;rw[iu] at dQ;split at dQ
  ·injection dQ with dQ;subst dQ
   simp at aa;rcases aa with aa|aa
   ·subst aa;exact⟨by omega,.inl (by rw[cx];simp[kI])⟩
   ·obtain⟨a,d⟩:=h.lK f l0 x aq (r3.mem aa);exact⟨by omega,by rw[cx,aQ (by omega)];exact d⟩
  ·obtain⟨a,d⟩:=h.lK cF l' x dQ aa;exact⟨by omega,by rw[cx,aQ (by omega)];exact d⟩
 ·exact adL h aq r3 cx iu yg
 ·intro x aa j7;have dy:x≠H.an:=by omega
  exact⟨by rw[bY.uS _ _ dy];exact j7,fun _=>by rw[cx,aQ dy]⟩
theorem b8.asZ(h:b8 P B w0 μ H w){f id:Nat}{l l0:List Nat}{cells:List Value}{elem:TypeId}{d':Nat}{sh:Bool}{o o':Obj}{L:Loc}(aq:H.bF.get f=some l0)(r3:l.Sublist l0)(IE:∀x,x∈l0->x∉l->H.mem.get x=some .dead)(aA:f<H.cy)(a9:μ id=some L)(ay:H.bL<=id)(LV:¬B L.r)
 (ax:H'.an=H.an+1)(aS:H'.cy=H.cy)(dS:H'.bL=H.bL)(cx:∀m,H'.mem.get m=if m=H.an then some (.row cells elem true f d' sh) else H.mem.get m)
 (iu:∀m,H'.bF.get m=if m=f then some (H.an::l) else H.bF.get m)(yg:∀y∈l,∀c e f z s,H.mem.get y=some (.row c e true f z s)->c.length<=cells.length)
 (ya:∀y bX,μ y=some bX->bX.r=L.r->H.mem.get y=some .dead\/(yv H y f/\y∈l/\∃b,H.mem.get y=some b/\kf P μ bX b o'))
 (ai:kf P μ L (.row cells elem true f d' sh) o'):
 b8 P B w0 (μ.put H.an L) H' {w with heap:=w.heap.setIfInBounds L.r o'}/\Step μ (μ.put H.an L) H H':=by
 have _:=o;have k1:=h.vV L;have ed:∀x bX,(μ.put H.an L) x=some bX->x≠H.an->μ x=some bX:=fun x bX a b=>by rwa [bY.uS _ _ b] at a
 have Rw:L.r<w.heap.size:=by
  obtain⟨b,o,_,ah,_⟩:=h.gC id L a9;rcases hH L.r w.heap.size with dh|dh
  ·exact dh
  ·rw[tw dh] at ah;cases ah
 have fJ:∀r,({w with heap:=w.heap.setIfInBounds L.r o'}:World).heap[r]?=if r=L.r then some o' else w.heap[r]?:=fun r=>by
  show(w.heap.setIfInBounds L.r o')[r]?=_;rw[AU];by_cases ao:L.r=r
  ·subst ao;simp[Rw]
  ·rw[aQ ao,aQ (Ne.symm ao)]
 have nv:yv H' H.an f:=⟨cells,elem,d',sh,by rw[cx];simp⟩;have anv:H'.bF.get f=some (H.an::l):=by rw[iu];simp
 have side:∀y hB,y≠H.an->μ y=some hB->hB.r=L.r->VE H' H.an y:=fun y hB lq ap oK=>by
  rcases ya y hB ap oK with d|⟨⟨c,e,z,s,q⟩,m,_⟩
  ·exact .inr (.inl (by rw[cx,aQ lq];exact d))
  ·exact .inr (.inr ⟨f,_,nv,⟨c,e,z,s,by rw[cx,aQ lq];exact q⟩,anv,by simp,by simp[m]⟩)
 refine⟨⟨⟨h.below.os,h.below.tape,h.below.output,?_,?_⟩,?_,?_,?_,?_,?_,?_,?_,?_,?_,?_,?_⟩,⟨k1,by omega,dS,?_⟩⟩
 ·show w0.heap.size<=(w.heap.setIfInBounds L.r o').size;rw[Kv];exact h.below.size
 ·intro k hk;rw[fJ,aQ (fun e=>by subst e;exact LV hk)];exact h.below.block k hk
 ·intro k hk;show k<(w.heap.setIfInBounds L.r o').size;rw[Kv];exact h.ov k hk
 ·intro x bX aa;by_cases dy:x=H.an
  ·subst dy;rw[bY.kw] at aa;injection aa with aa;subst aa
   exact⟨_,o',by rw[cx];simp,by rw[fJ];simp,ai.mono k1⟩
  ·have e7:=ed x bX aa dy;by_cases ao:bX.r=L.r
   ·rcases ya x bX e7 ao with d|⟨_,_,b,aL,aG⟩
    ·exact⟨.dead,o',by rw[cx,aQ dy];exact d,by rw[fJ,aV ao],by cases o'<;>simp[kf]⟩
    ·exact⟨b,o',by rw[cx,aQ dy];exact aL,by rw[fJ,aV ao],aG.mono k1⟩
   ·obtain⟨b',FD,ad,ae,aD⟩:=h.gC x bX e7;exact⟨b',FD,by rw[cx,aQ dy];exact ad,by rw[fJ,aQ ao];exact ae,aD.mono k1⟩
 ·intro x y gH hB eN aa ap oK;by_cases dy:x=H.an
  ·subst dy;rw[bY.kw] at aa;injection aa with aa;subst aa
   exact side y hB (Ne.symm eN) (ed y hB ap (Ne.symm eN)) oK.symm
  ·by_cases lq:y=H.an
   ·subst lq;rw[bY.kw] at ap;injection ap with ap;subst ap
    rcases side x gH dy (ed x gH aa dy) oK with d|d|⟨cF,l',q,dG,dQ,cW,eE⟩
    ·exact .inr (.inl d)
    ·exact .inl d
    ·exact .inr (.inr ⟨cF,l',dG,q,dQ,eE,cW⟩)
   ·rcases h.sep x y gH hB eN (ed x gH aa dy) (ed y hB ap lq) oK with d|d|⟨cF,l',⟨c,e,z,s,q⟩,⟨c',bD,hF,cM,dG⟩,dQ,cW,eE⟩
    ·exact .inl (by rw[cx,aQ dy];exact d)
    ·exact .inr (.inl (by rw[cx,aQ lq];exact d))
    ·by_cases q2:cF=f
     ·subst q2;rw[aq] at dQ;injection dQ with dQ;subst dQ
      by_cases dC:x∈l
      ·by_cases e8:y∈l
       ·exact .inr (.inr ⟨cF,H.an::l,⟨c,e,z,s,by rw[cx,aQ dy];exact q⟩,⟨c',bD,hF,cM,by rw[cx,aQ lq];exact dG⟩,by rw[iu];simp,by simp[dC],by simp[e8]⟩)
       ·exact .inr (.inl (by rw[cx,aQ lq];exact IE y eE e8))
      ·exact .inl (by rw[cx,aQ dy];exact IE x cW dC)
     ·exact .inr (.inr ⟨cF,l',⟨c,e,z,s,by rw[cx,aQ dy];exact q⟩,⟨c',bD,hF,cM,by rw[cx,aQ lq];exact dG⟩,by rw[iu,aQ q2];exact dQ,cW,eE⟩)
 ·intro x bX aa;by_cases dy:x=H.an
  ·omega
  ·have:=h.lt x bX (ed x bX aa dy);omega
 ·intro x bX aa ay;rw[dS] at ay;have dy:x≠H.an:=by have:=h.kZ;omega
  exact h.own x bX (ed x bX aa dy) ay
 ·intro x bX aa ay eh;rw[dS] at ay;by_cases dy:x=H.an
  ·subst dy;rw[bY.kw] at aa;injection aa with aa;subst aa
   exact LV
  ·exact h.new x bX (ed x bX aa dy) ay (by rw[cx,aQ dy] at eh;exact eh)
 ·intro g c e o f z s ay hm;rw[dS] at ay;have lN:g≠H.an:=by have:=h.kZ;omega
  rw[cx,aQ lN] at hm;obtain⟨bX,a9⟩:=h.ue g c e o f z s ay hm;exact⟨bX,k1 _ _ a9⟩
 ·rw[dS,ax];have:=h.kZ;omega
 ·intro x c e cF z s hm;rw[cx] at hm;split at hm
  ·injection hm with hm;injection hm with _ _ _ hm;omega
  ·have:=h.rM x c e cF z s hm;omega
 ·intro cF l' x dQ aa;rw[iu] at dQ;split at dQ
  ·injection dQ with dQ;subst dQ
   simp at aa;rcases aa with aa|aa
   ·subst aa;exact⟨by omega,.inl (by rw[cx];simp[kI])⟩
   ·obtain⟨a,d⟩:=h.lK f l0 x aq (r3.mem aa);exact⟨by omega,by rw[cx,aQ (by omega)];exact d⟩
  ·obtain⟨a,d⟩:=h.lK cF l' x dQ aa;exact⟨by omega,by rw[cx,aQ (by omega)];exact d⟩
 ·exact adL h aq r3 cx iu yg
 ·intro x aa j7;have dy:x≠H.an:=by omega
  exact⟨by rw[bY.uS _ _ dy];exact j7,fun _=>by rw[cx,aQ dy]⟩
theorem MV{qm:Nat}:∀{l:List Nat} {H H':ar},ta H qm l=some H'->H'.an=H.an/\H'.bF=H.bF/\H'.cy=H.cy/\H'.bL=H.bL/\
 (∀x,x∈l->x≠qm->H'.mem.get x=some .dead)/\(∀x,x∉l\/x=qm->H'.mem.get x=H.mem.get x):=by
 intro l;induction l with
 |nil=>intro H H' h;simp[ta] at h;subst h;exact⟨rfl,rfl,rfl,rfl,fun x aa=>by simp at aa,fun x _=>rfl⟩
 |cons y l aP=>
  intro H H' h;simp only[ta] at h;cases ap:Nat.beq y qm with
  |true=>
   rw[ap] at h;have IU:=ez ap;obtain⟨ba,bd,cm,cQ,dw,e0⟩:=aP (by simpa using h);refine⟨ba,bd,cm,cQ,fun x aa dX=>?_,fun x aa=>?_⟩
   ·simp at aa;rcases aa with rfl|aa
    ·exact absurd IU dX
    ·exact dw x aa dX
   ·refine e0 x ?_;rcases aa with aa|aa
    ·left;simp at aa;exact aa.2
    ·right;exact aa
  |false=>
   rw[ap] at h;have IU:y≠qm:=fun e=>by subst e;simp at ap
   simp only[dK] at h;cases hu:H.upd y .dead with
   |none=>rw[hu] at h;cases h
   |some H1=>
    rw[hu] at h;obtain⟨a',bf,bV,dx,fs⟩:=ar.rn hu;obtain⟨ba,bd,cm,cQ,dw,e0⟩:=aP h;refine⟨by omega,by rw[bd,bf],by omega,by omega,fun x aa dX=>?_,fun x aa=>?_⟩
    ·by_cases nz:x∈l
     ·exact dw x nz dX
     ·have eN:x=y:=by simp at aa;rcases aa with q|q;exact q;exact absurd q nz
      rw[e0 x (.inl nz),fs,aV eN]
    ·have eN:x≠y:=by
      rcases aa with q|q
      ·simp at q;exact q.1
      ·rw[q];exact Ne.symm IU
     have:x∉l\/x=qm:=by
      rcases aa with q|q
      ·left;simp at q;exact q.2
      ·right;exact q
     rw[e0 x this,fs,aQ eN]
theorem aiN{id:Nat}:∀{l l':List Nat} {H H':ar},zH H id l=some (l',H')->H'.an=H.an/\H'.bF=H.bF/\H'.cy=H.cy/\H'.bL=H.bL/\l'.Sublist l/\id∈l'/\H'.mem.get id=H.mem.get id/\
 (∀x,x∈l->x∉l'->H'.mem.get x=some .dead)/\(∀x,H'.mem.get x=H.mem.get x\/(H'.mem.get x=some .dead/\x∈l))/\(∃pre,l=pre++l'/\l'=id::l'.tail):=by
 intro l;induction l with
 |nil=>intro l' H H' h;simp[zH] at h
 |cons y l aP=>
  intro l' H H' h;simp only[zH] at h;cases ap:Nat.beq y id with
  |true=>
   rw[ap,cd] at h;simp only[cn,dr] at h;obtain⟨rfl,rfl⟩:=h;have:=ez ap;subst this;exact⟨rfl,rfl,rfl,rfl,iZ _,by simp,rfl,fun x a b=>absurd a b,fun x=>.inl rfl,[],rfl,rfl⟩
  |false=>
   rw[ap,dK] at h;have IU:y≠id:=fun e=>by subst e;simp at ap
   cases hu:H.upd y .dead with
   |none=>rw[hu] at h;cases h
   |some H1=>
    rw[hu] at h;obtain⟨a',bf,bV,dx,fs⟩:=ar.rn hu;obtain⟨ba,bd,cm,cQ,dw,e0,eP,hn,ho,pre,xj,pW⟩:=aP h;refine⟨by omega,by rw[bd,bf],by omega,by omega,dw.cons _,e0,by rw[eP,fs,aQ (Ne.symm IU)],fun x aa nz=>?_,fun x=>?_,y::pre,by rw[xj];rfl,pW⟩
    ·by_cases e7:x∈l
     ·exact hn x e7 nz
     ·have eN:x=y:=by simp at aa;rcases aa with q|q;exact q;exact absurd q e7
      rcases ho x with q|q
      ·rw[q,fs,aV eN]
      ·exact q.1
    ·rcases ho x with q|q
     ·rw[fs] at q;split at q
      ·rename_i eN;exact .inr ⟨q,by simp[eN]⟩
      ·exact .inl q
     ·exact .inr ⟨q.1,by simp[q.2]⟩
end
end
end Go.Cre
namespace Go.Cre
noncomputable section
open Go.RowKit
def rl(c:Array Value)(n:Nat):List Value->Array Value
 |[]=>c
 |v::vs=>rl (c.setIfInBounds n v) (n+1) vs
theorem UU(vs:List Value):∀(c:Array Value) (n:Nat),(rl c n vs).size=c.size:=by
 induction vs with
 |nil=>intro c n;rfl
 |cons v vs aP=>intro c n;rw[rl,aP];simp
theorem N0(vs:List Value):∀(c:Array Value) (n i:Nat),n+vs.length<=c.size->(rl c n vs)[i]?=if n<=i/\i<n+vs.length then vs[i -n]? else c[i]?:=by
 induction vs with
 |nil=>intro c n i h;simp[rl];omega
 |cons v vs aP=>
  intro c n i h;simp only[kR] at h;rw[rl,aP _ _ _ (by simp;omega)];rw[AU];by_cases ad:n=i
  ·subst ad;rw[aQ (by omega),aV rfl,aV (by omega),aV (by simp)];simp
  ·by_cases ae:n+1<=i/\i<n+1+vs.length
   ·rw[aV ae,aV (by simp;omega)];rw[show i -n=(i -(n+1))+1 from by omega,OL]
   ·rw[aQ ae,aQ ad,aQ (by simp;omega)]
theorem ar1(v:Value):v.oneCell'=fh v:=by cases v<;>rfl
theorem Addr.rG(b o i:Nat):(⟨b,o,none⟩:Addr).add i=⟨b,o+i,none⟩:=by
 unfold Addr.add;split<;>simp_all
section
variable {P:Program}
theorem cell_of_row{w:World}{r:Nat}{c:Array Value}{e:TypeId}{f:Nat×Nat}(h:w.heap[r]?=some (.cells c e f))(o:Nat):w.cell? ⟨r,o,none⟩=c[o]?:=by
 simp[World.cell?,h]
theorem frozen_of_row{w:World}{r:Nat}{c:Array Value}{e:TypeId}{f:Nat×Nat}(h:w.heap[r]?=some (.cells c e f))(o:Nat):w.frozen? ⟨r,o,none⟩=(decide (f.1<=o)&&decide (o<f.2)):=by
 simp[World.frozen?,h]
theorem adu{w:World}{r:Nat}{c:Array Value}{e:TypeId}{f:Nat×Nat}(h:w.heap[r]?=some (.cells c e f))(o:Nat)(v:Value):
 w.setCell ⟨r,o,none⟩ v={w with heap:=w.heap.setIfInBounds r (.cells (c.setIfInBounds o v) e f)}:=by
 have ao:r<w.heap.size:=by
  rcases hH r w.heap.size with dh|dh
  ·exact dh
  ·rw[tw dh] at h;cases h
 unfold World.setCell;congr 1
 apply Gh
 intro i;rw[afn,AU];by_cases ak:r=i
 ·subst ak;rw[aV rfl,aV rfl,h,aV ao];rfl
 ·simp[ak]
theorem ado(r off:Nat)(e:TypeId)(f:Nat×Nat):∀(vs:List Value) (i:Nat) (c:Array Value) (w:World),w.heap[r]?=some (.cells c e f)->off+i+vs.length<=c.size->
 (∀j,j<vs.length->¬(f.1<=off+i+j/\off+i+j<f.2))->(∀v∈vs,fh v=true)->
 (storeCells ⟨r,off,none⟩ vs i).run P w=.ok () {w with heap:=w.heap.setIfInBounds r (.cells (rl c (off+i) vs) e f)}:=by
 intro vs;induction vs with
 |nil=>
  intro i c w h _ _ _;have ao:r<w.heap.size:=by
   rcases hH r w.heap.size with dh|dh
   ·exact dh
   ·rw[tw dh] at h;cases h
  have:w.heap.setIfInBounds r (.cells c e f)=w.heap:=by
   apply Gh
   intro j;rw[AU];split
   ·rename_i aX;subst aX;exact h.symm
   ·rfl
  simp[storeCells,rl,this]
 |cons v vs aP=>
  intro i c w h aq aA ad;simp only[kR] at aq aA;have ao:r<w.heap.size:=by
   rcases hH r w.heap.size with dh|dh
   ·exact dh
   ·rw[tw dh] at h;cases h
  have dB:(store ((⟨r,off,none⟩:Addr).add i) v).run P w=.ok () (w.setCell ⟨r,off+i,none⟩ v):=by
   rw[Addr.rG,run_store P w _ v _ (by rw[ar1];exact ad v (by simp))];have aM:=aA 0 (by omega);have aC:w.cell? ⟨r,off+i,none⟩=some (c[off+i]'(by omega)):=by
    rw[cell_of_row h,AT (by omega)]
   have MM:w.frozen? ⟨r,off+i,none⟩=false:=by
    rw[frozen_of_row h];simp only[iD] at aM;by_cases q:f.1<=off+i
    ·have:¬(off+i<f.2):=fun x=>aM ⟨q,x⟩;simp[this]
    ·simp[q]
   simp[aC,MM]
  have hw:(w.setCell ⟨r,off+i,none⟩ v).heap[r]?=some (.cells (c.setIfInBounds (off+i) v) e f):=by
   rw[adu h];show(w.heap.setIfInBounds r _)[r]?=_;rw[AU];simp[ao]
  have:=aP (i+1) (c.setIfInBounds (off+i) v) (w.setCell ⟨r,off+i,none⟩ v) hw (by simp;omega) (fun j aX=>by
   have:=aA (j+1) (by omega);rwa [show off+i+(j+1)=off+(i+1)+j from by omega] at this) (fun x aa=>ad x (by simp[aa]))
  simp only[storeCells,Sem.run_bind,dB,Result.andThen_ok,this,rl];rw[adu h,show off+(i+1)=off+i+1 from by omega];congr 2
  show(w.heap.setIfInBounds r _).setIfInBounds r _=_;apply Gh
  intro j;simp only[AU,Kv];split<;>rfl
variable {B:Nat->Prop}{w0 w:World}{μ:bY}{H H':ar}
theorem Yo{N d':Nat}{sh:Bool}{f:Nat×Nat}(h:Q1 N d' sh f){o:Nat}(ah:o<N)(aM:d'<=o):¬(f.1<=o/\o<f.2):=fun q=>by
 have:=h.1 o ah q.1 q.2;omega
theorem b8.ae9(h:b8 P B w0 μ H w){id bF d' Q2:Nat}{L:Loc}{cells cells':List Value}{elem:TypeId}{opn sh:Bool}{o':Obj}{H1:ar}(a9:μ id=some L)(p':H.bL<=id)(hm:H.mem.get id=some (.row cells elem opn bF d' sh))
 (s1:cells'.length=cells.length)(hu:H.upd id (.row cells' elem opn bF Q2 sh)=some H1)(he:(bif opn then Ai H1 id bF else some H1)=some H')(ai:kf P μ L (.row cells' elem opn bF Q2 sh) o'):
 b8 P B w0 μ H' {w with heap:=w.heap.setIfInBounds L.r o'}/\Step μ μ H H':=by
 obtain⟨u1,bT,nd,Dd,tr⟩:=ar.rn hu;have wg:H.mem.get id≠some .dead:=by rw[hm];simp
 cases opn with
 |false=>
  simp only[dK] at he;injection he with he;subst he
  refine h.write a9 p' wg u1 nd Dd (by rw[tr];simp) (fun x aa=>.inl (by rw[tr,aQ aa])) ?_ (fun f l aq=>.inl (by rw[bT];exact aq)) (fun f l aq=>.inl (by rw[<-bT];exact aq))
   (fun c e f z s q=>by injection q with _ _ q;cases q) (fun q=>by rw[hm] at q;simp[kI] at q) ai
  intro x bX aa v5 ao;rcases h.sep id x L bX (Ne.symm aa) a9 v5 ao.symm with d|d|⟨cF,l,⟨bb,ax,e',NX,q⟩,_⟩
  ·exact absurd d wg
  ·rw[tr,aQ aa];exact d
  ·rw[hm] at q;injection q with q;injection q with _ _ q;cases q
 |true=>
  simp only[cd] at he;unfold Ai at he;cases aA:H1.bF.get bF with
  |none=>rw[aA] at he;cases he
  |some l=>
   rw[aA] at he;simp only at he;cases hk:ta H1 id l with
   |none=>rw[hk] at he;cases he
   |some bW=>
    rw[hk] at he;simp only at he;obtain⟨aW,aT,bo,cu,fm,iG⟩:=MV hk;obtain⟨b4,bZ,cH,fX,gf⟩:=ar.FW he;have pf:H.bF.get bF=some l:=by rw[<-bT];exact aA
    have B4:H'.mem.get id=some (.row cells' elem true bF Q2 sh):=by rw[bZ,iG id (.inr rfl),tr];simp
    have ZL:∀x,x≠id->x∉l->H'.mem.get x=H.mem.get x:=fun x aa nz=>by rw[bZ,iG x (.inl nz),tr,aQ aa]
    have uv:∀x,x≠id->x∈l->H'.mem.get x=some .dead:=fun x aa nz=>by rw[bZ];exact fm x nz aa
    refine h.write a9 p' wg (by omega) (by omega) (by omega) B4 ?_ ?_ ?_ ?_ ?_ (fun _=>rfl) ai
    ·intro x aa;by_cases nz:x∈l
     ·exact .inr ⟨uv x aa nz,(h.lK bF l x pf nz).2⟩
     ·exact .inl (ZL x aa nz)
    ·intro x bX aa v5 ao;rcases h.sep id x L bX (Ne.symm aa) a9 v5 ao.symm with d|d|⟨cF,l',⟨bb,ax,e',NX,q⟩,_,dQ,_,eE⟩
     ·exact absurd d wg
     ·by_cases nz:x∈l
      ·exact uv x aa nz
      ·rw[ZL x aa nz];exact d
     ·rw[hm] at q;injection q with q;injection q with _ _ _ q;subst q
      rw[pf] at dQ;injection dQ with dQ;subst dQ
      exact uv x aa eE
    ·intro cF l' dQ;by_cases q2:cF=bF
     ·subst q2;rw[pf] at dQ;injection dQ with dQ;subst dQ
      right
      intro x y aa ap eN;by_cases jB:x=id
      ·right;exact uv y (fun e=>eN (by rw[jB,e])) ap
      ·left;exact uv x jB aa
     ·left;rw[gf,aQ q2,aT,bT];exact dQ
    ·intro cF l' dQ;rw[gf] at dQ;split at dQ
     ·injection dQ with dQ;right;exact⟨dQ.symm,rfl⟩
     ·left;rw[aT,bT] at dQ;exact dQ
    ·intro bb ax f1 e' NX q;injection q with hZ _ _ q;subst q;subst hZ
     exact⟨_,_,_,_,hm,s1.symm⟩
theorem LH(h:b8 P B w0 μ H w){id off:Nat}{L:Loc}{vs nK:List Value}(a9:μ id=some L)(av:b3 μ vs nK)(he:sN H id off vs=some H'):
 ∃a8,(storeCells ⟨L.r,off,none⟩ nK).run P w=.ok () a8/\b8 P B w0 μ H' a8/\Step μ μ H H':=by
 unfold sN at he;cases vs with
 |nil=>
  injection he with he;subst he
  have:=av.lr;subst this;exact⟨w,rfl,h,Step.refl _ _⟩
 |cons v0 aeY=>
  simp only at he;generalize aab:v0::aeY=vs at*;cases ay:Nat.blt id H.bL with
  |true=>rw[ay] at he;cases he
  |false=>
   rw[ay,dK] at he;have p':H.bL<=id:=by
    have:¬id<H.bL:=fun q=>by have:=mo q;unfold Nat.blt at ay;simp_all
    omega
   cases hm:H.mem.get id with
   |none=>rw[hm] at he;cases he
   |some b=>
    rw[hm] at he;cases b with
    |row cells elem opn bF d' sh=>
     simp only at he;cases aC:(Nat.ble d' off&&vs.all fh) with
     |false=>rw[aC] at he;cases he
     |true=>
      rw[aC,cd] at he;simp only[gr] at aC;have R0:=h3 aC.1;cases hs:gS off cells vs with
      |none=>rw[hs] at he;cases he
      |some cells'=>
       rw[hs] at he;simp only at he;cases hu:H.upd id (.row cells' elem opn bF d' sh) with
       |none=>rw[hu] at he;cases he
       |some H1=>
        rw[hu] at he;simp only at he;obtain⟨s1,s2,gN⟩:=UV hs;obtain⟨b,o,aL,aG,bt⟩:=h.gC id L a9;rw[hm] at aL;injection aL with aL;subst aL
        cases o with
        |cells c e f=>
         obtain⟨dq,c2,fp,ij,uV,NP,JQ⟩:=bt;have mc:=av.1;have g8:=ado (P:=P) L.r off e f nK 0 c w aG (by omega) (fun j aX=>by
          simp only[iD];exact Yo JQ (by omega) (by omega)) (fun v wm=>by
          obtain⟨i,ak⟩:=xa.1 wm;have rU:i<vs.length:=by
           have:=(ff.1 ak).1;omega
          have:=av.2 i vs[i] v (ey rU) ak;rw[this.fh];exact rA.1 aC.2 _ (List.getElem_mem rU))
         simp only[iD] at g8;have ai:kf P μ L (.row cells' elem opn bF d' sh) (.cells (rl c off nK) e f):=by
          refine⟨dq,by rw[UU];exact c2,fp,by omega,fun ah=>by have:=uV ah;omega,?_,JQ⟩;intro i v v' ak lk;rw[N0 _ _ _ _ (by omega)] at lk;rw[gN] at ak;rw[<-mc] at lk;split at ak
          ·rename_i uk;rw[aV uk] at lk;exact av.2 _ v v' ak lk
          ·rename_i uk;rw[aQ uk] at lk;exact NP i v v' ak lk
         exact⟨_,g8,h.ae9 a9 p' hm s1 hu he ai⟩
        |_=>exact bt.elim
    |_=>cases he
end
end
end Go.Cre

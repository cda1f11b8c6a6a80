/- A part of the proof of TableTurns. -/
import Derived.Test.YtlgjlbpafcifoaaGreatDoorCab
import Derived.Laws.Append
import Derived.Laws.AppendOwn
import Derived.Laws.IdiomCopy
set_option linter.unusedVariables false
set_option linter.unusedSimpArgs false
namespace Go.Cre
noncomputable section
open Go.RowKit
def NO(N ef:Nat)(sh:Bool)(f:Nat×Nat):Prop:=(∀off,off<N->f.1<=off->off<f.2->off<ef)/\(sh=false->f.1=f.2\/f.2<=ef)
inductive vA (μ:bL):List MapEntry->List MapEntry->Prop
 |nil:vA μ [] []
 |cons (e bC:MapEntry) (es m7:List MapEntry):bC.key=e.key->plain e.key=true->bg μ e.val bC.val->vA μ es m7->vA μ (e::es) (bC::m7)
def zh(μ:bL)(es m7:List MapEntry):Prop:=∃l,l.Perm m7/\vA μ es l
theorem vA.mono{μ bf:bL}{l m:List MapEntry}(h:vA μ l m)(e:Ext μ bf):vA bf l m:=by
 induction h with
 |nil=>exact .nil
 |cons a b es m7 ab ad aL _ aP=>exact .cons a b es m7 ab ad (aL.mono e) aP
theorem vA.length{μ:bL}{l m:List MapEntry}(h:vA μ l m):l.length=m.length:=by
 induction h with
 |nil=>rfl
 |cons a b es m7 ab ad aL _ aP=>simp[aP]
theorem zh.length{μ:bL}{l m:List MapEntry}(h:zh μ l m):l.length=m.length:=by
 obtain⟨k,ab,ad⟩:=h;rw[ad.length,ab.length_eq]
theorem zh.nil(μ:bL):zh μ [] []:=⟨[],.refl _,.nil⟩
def jU(μ:bL)(T:aW Value)(n:Nat)(tmps:Array Value):Prop:=n<=tmps.size/\∀t v,T.get t=some v->bg μ v (tmps.getD t undef)
def jx(P:Program)(μ:bL)(L:Loc):e3->Obj->Prop
 |.row cells elem opn _ ef sh,.cells c e f=>e=elem/\c.size=L.N/\P.cellsOf elem=L.sz/\cells.length<=L.N/\(opn=false->cells.length=L.N)/\
  (∀(i:Nat) v v',cells[i]?=some v->c[i]?=some v'->bg μ v v')/\NO L.N ef sh f
 |.map es _,.map m7 _=>zh μ es m7.toList
 |.loop l,.loop l'=>l'.state=l.state/\l'.pending=l.pending/\l'.params.toList=l.params/\l'.assign=l.assign/\l'.body=l.body/\jU μ l.T l.n l'.tmps/\∃bR,μ l.gk=some bR/\l'.defers=bR.r/\∃fn,P.funcs[l'.fn]?=some fn
 |.gk ds,.deferred eL=>eL=ds/\(ds=some []\/ds=none)
 |.dead,_=>True
 |_,_=>False
theorem jU.mono{μ bf:bL}{T:aW Value}{n:Nat}{tmps:Array Value}(h:jU μ T n tmps)(e:Ext μ bf):jU bf T n tmps:=⟨h.1,fun t v x=>(h.2 t v x).mono e⟩
theorem jx.mono{P:Program}{μ bf:bL}{L:Loc}{b:e3}{o:Obj}(h:jx P μ L b o)(e:Ext μ bf):jx P bf L b o:=by
 cases b with
 |row cells elem opn bw ef sh=>
  cases o with
  |cells c bC f=>obtain⟨ab,ad,aL,a6,fb,fX,na⟩:=h;exact⟨ab,ad,aL,a6,fb,fun i v v' a b=>(fX i v v' a b).mono e,na⟩
  |_=>exact h
 |map es clock=>
  cases o with
  |map m7 IZ=>obtain⟨l,ab,ad⟩:=h;exact⟨l,ab,ad.mono e⟩
  |_=>exact h
 |loop l=>
  cases o with
  |loop l'=>obtain⟨ab,ad,aL,a6,fb,fX,bR,na,Cp⟩:=h;exact⟨ab,ad,aL,a6,fb,fX.mono e,bR,e _ _ na,Cp⟩
  |_=>exact h
 |gk ds=>
  cases o with
  |deferred eL=>exact h
  |_=>exact h
 |dead=>cases o<;>trivial
def j1:Option e3->Bool
 |some (.row _ _ opn _ _ _)=>opn
 |_=>false
def w1(H:an)(id f:Nat):Prop:=∃c e z s,H.mem.get id=some (.row c e true f z s)
def So(H:an)(id lR:Nat):Prop:=
 H.mem.get id=some .dead\/H.mem.get lR=some .dead\/∃f l,w1 H id f/\w1 H lR f/\H.bw.get f=some l/\id∈l/\lR∈l
def Mm(H:an)(l:List Nat):Prop:=
 l.Pairwise fun x y=>∀c e f z s c' bC f' g3 cQ,H.mem.get x=some (.row c e true f z s)->H.mem.get y=some (.row c' bC true f' g3 cQ)->c'.length<=c.length
structure Kept (B:Nat->Prop) (w a5:World):Prop where
 os:a5.os=w.os
 tape:a5.tape=w.tape
 output:a5.output=w.output
 size:w.heap.size<=a5.heap.size
 block:∀k,B k->a5.heap[k]?=w.heap[k]?
theorem Kept.refl(B:Nat->Prop)(w:World):Kept B w w:=⟨rfl,rfl,rfl,bF _,fun _ _=>rfl⟩
theorem Kept.trans{B:Nat->Prop}{a b c:World}(h:Kept B a b)(k:Kept B b c):Kept B a c:=
 ⟨k.os.trans h.os,k.tape.trans h.tape,k.output.trans h.output,dA h.size k.size,fun i ak=>(k.block i ak).trans (h.block i ak)⟩
theorem Kept.drew{B:Nat->Prop}{a w:World}(h:Kept B a w):Kept B a w.drew:=⟨h.os,h.tape,h.output,h.size,h.block⟩
theorem Kept.alloc{B:Nat->Prop}{a w:World}(h:Kept B a w)(eh:∀k,B k->k<w.heap.size)(o:Obj):Kept B a (w.alloc o):=
 h.trans ⟨rfl,rfl,rfl,by simp,fun k hk=>Below.heap_alloc _ _ _ (eh k hk)⟩
theorem Kept.below{n:Nat}{w a5:World}(h:Kept (fun k=>k<n) w a5):Below n w a5:=⟨h.os,h.tape,h.output,h.size,h.block⟩
theorem Kept.amr{n:Nat}{B:Nat->Prop}{w a5:World}(h:Below n w a5)(eh:∀k,B k->k<n):Kept B w a5:=⟨h.os,h.tape,h.output,h.size,fun k hk=>h.block k (eh k hk)⟩
structure bX (P:Program) (B:Nat->Prop) (w0:World) (μ:bL) (H:an) (w:World):Prop where
 below:Kept B w0 w
 nK:∀k,B k->k<w.heap.size
 fS:∀id L,μ id=some L->∃b o,H.mem.get id=some b/\w.heap[L.r]?=some o/\jx P μ L b o
 sep:∀id lR L bR,id≠lR->μ id=some L->μ lR=some bR->L.r=bR.r->So H id lR
 lt:∀id L,μ id=some L->id<H.ay
 own:∀id L,μ id=some L->id<H.bz->L.r=id
 new:∀id L,μ id=some L->H.bz<=id->H.mem.get id≠some .dead->¬B L.r
 te:∀g c e o f z s,g<H.bz->H.mem.get g=some (.row c e o f z s)->∃L,μ g=some L
 kc:H.bz<=H.ay
 qS:∀id c e f z s,H.mem.get id=some (.row c e true f z s)->f<H.cn
 kR:∀f l x,H.bw.get f=some l->x∈l->x<H.ay/\(j1 (H.mem.get x)=true\/H.mem.get x=some .dead)
 uL:∀f l,H.bw.get f=some l->Mm H l
structure Step (μ bf:bL) (H H':an):Prop where
 ext:Ext μ bf
 ay:H.ay<=H'.ay
 bz:H'.bz=H.bz
 fF:∀id,id<H.ay->μ id=none->bf id=none/\(j1 (H.mem.get id)=false->H'.mem.get id=H.mem.get id)
theorem Step.refl(μ:bL)(H:an):Step μ μ H H:=⟨Ext.refl μ,bF _,rfl,fun _ _ h=>⟨h,fun _=>rfl⟩⟩
theorem Step.trans{μ e2 jj:bL}{H H1 bK:an}(h:Step μ e2 H H1)(k:Step e2 jj H1 bK):Step μ jj H bK:=
 ⟨h.ext.trans k.ext,dA h.ay k.ay,k.bz.trans h.bz,fun id ak az=>by
  obtain⟨a,b⟩:=h.fF id ak az;obtain⟨c,d⟩:=k.fF id (hA ak h.ay) a;exact⟨c,fun ah=>by rw[d (by rw[b ah];exact ah),b ah]⟩⟩
theorem an.qv{H H':an}{id:Nat}{b:e3}(h:H.upd id b=some H'):H'.ay=H.ay/\H'.bw=H.bw/\H'.cn=H.cn/\H'.bz=H.bz/\∀m,H'.mem.get m=if m=id then some b else H.mem.get m:=by
 obtain⟨mem,ay,bw,cn,bz⟩:=H;simp only[an.upd] at h;cases ao:aW.put b mem id with
 |none=>rw[ao] at h;cases h
 |some m=>rw[ao] at h;injection h with h;subst h;exact⟨rfl,rfl,rfl,rfl,aW.get_put ao⟩
theorem an.oG{H H':an}{id:Nat}{b:e3}(h:H.new b=some (id,H')):id=H.ay/\H'.ay=H.ay+1/\H'.bw=H.bw/\H'.cn=H.cn/\H'.bz=H.bz/\∀m,H'.mem.get m=if m=H.ay then some b else H.mem.get m:=by
 obtain⟨mem,ay,bw,cn,bz⟩:=H;simp only[an.new] at h;cases ao:aW.put b mem ay with
 |none=>rw[ao] at h;cases h
 |some m=>
  rw[ao] at h;simp only[an.QD,an.X9,cl,dm] at h;obtain⟨rfl,rfl⟩:=h;exact⟨rfl,rfl,rfl,rfl,rfl,aW.get_put ao⟩
theorem an.DI{H H':an}{f:Nat}{l:List Nat}(h:H.rr f l=some H'):H'.ay=H.ay/\H'.mem=H.mem/\H'.cn=H.cn/\H'.bz=H.bz/\∀m,H'.bw.get m=if m=f then some l else H.bw.get m:=by
 obtain⟨mem,ay,bw,cn,bz⟩:=H;simp only[an.rr] at h;cases ao:aW.put l bw f with
 |none=>rw[ao] at h;cases h
 |some m=>rw[ao] at h;injection h with h;subst h;exact⟨rfl,rfl,rfl,rfl,aW.get_put ao⟩
theorem an.Kz{H H':an}{f:Nat}(h:H.ve=some (f,H')):f=H.cn/\H'.ay=H.ay/\H'.mem=H.mem/\H'.cn=H.cn+1/\H'.bz=H.bz/\∀m,H'.bw.get m=if m=H.cn then some [H.ay] else H.bw.get m:=by
 obtain⟨mem,ay,bw,cn,bz⟩:=H;simp only[an.ve] at h;cases ao:aW.put [ay] bw cn with
 |none=>rw[ao] at h;cases h
 |some m=>
  rw[ao] at h;simp only[an.QE,an.X',cl,dm] at h;obtain⟨rfl,rfl⟩:=h;exact⟨rfl,rfl,rfl,rfl,rfl,aW.get_put ao⟩
def bL.put(μ:bL)(id:Nat)(L:Loc):bL:=fun x=>if x=id then some L else μ x
theorem bL.jP(μ:bL)(id:Nat)(L:Loc):μ.put id L id=some L:=by simp[bL.put]
theorem bL.tO(μ:bL){id x:Nat}(L:Loc)(h:x≠id):μ.put id L x=μ x:=by simp[bL.put,h]
section
variable {P:Program}{B:Nat->Prop}{w0 w:World}{μ:bL}{H H':an}
theorem bX.Ye(h:bX P B w0 μ H w):μ H.ay=none:=by
 cases U:μ H.ay with
 |none=>rfl
 |some L=>have:=h.lt _ _ U;omega
theorem bX.uK(h:bX P B w0 μ H w)(L:Loc):Ext μ (μ.put H.ay L):=fun id bR U=>by
 by_cases e:id=H.ay
 ·subst e;rw[h.Ye] at U;cases U
 ·rw[bL.tO _ _ e];exact U
theorem bX.drew(h:bX P B w0 μ H w):bX P B w0 μ H w.drew:=
 ⟨h.below.drew,h.nK,h.fS,h.sep,h.lt,h.own,h.new,h.te,h.kc,h.qS,h.kR,h.uL⟩
theorem bX.drawn(h:bX P B w0 μ H w)(n:Nat):bX P B w0 μ H {w with drawn:=n}:=
 ⟨⟨h.below.os,h.below.tape,h.below.output,h.below.size,h.below.block⟩,h.nK,h.fS,h.sep,h.lt,h.own,h.new,h.te,h.kc,h.qS,h.kR,h.uL⟩
theorem CC(w:World)(o:Obj)(r:Nat):(w.alloc o).heap[r]?=if r=w.heap.size then some o else w.heap[r]?:=by
 show(w.heap.push o)[r]?=_;rw[Array.getElem?_push]
theorem bX.XK(h:bX P B w0 μ H w){b:e3}{o:Obj}{L:Loc}(aw:H'.ay=H.ay+1)(dK:H'.bz=H.bz)(cr:∀m,H'.mem.get m=if m=H.ay then some b else H.mem.get m)
 (Pa:H.cn<=H'.cn)(oy:∀f l,H'.bw.get f=some l->H.bw.get f=some l\/(l=[H.ay]/\j1 (some b)=true))(aiv:∀f l,f<H.cn->H.bw.get f=some l->H'.bw.get f=some l)
 (ai9:∀c e f z s,b=.row c e true f z s->f<H'.cn)(aq:L.r=w.heap.size)(ai:jx P (μ.put H.ay L) L b o):
 bX P B w0 (μ.put H.ay L) H' (w.alloc o)/\Step μ (μ.put H.ay L) H H':=by
 have kf:=h.uK L;have dH:∀x bR,(μ.put H.ay L) x=some bR->x≠H.ay->μ x=some bR:=fun x bR a b=>by rwa [bL.tO _ _ b] at a
 have b9:∀x bR,μ x=some bR->bR.r<w.heap.size:=fun x bR U=>by
  obtain⟨b',o',_,ah,_⟩:=h.fS x bR U;rcases hL bR.r w.heap.size with cT|cT
  ·exact cT
  ·rw[sE cT] at ah;cases ah
 refine⟨⟨h.below.alloc h.nK o,?_,?_,?_,?_,?_,?_,?_,?_,?_,?_,?_⟩,⟨kf,by omega,dK,?_⟩⟩
 ·intro k hk;have:=h.nK k hk;show k<(w.heap.push o).size;rw[Sr];omega
 ·intro x bR U;by_cases c1:x=H.ay
  ·subst c1;rw[bL.jP] at U;injection U with U;subst U
   exact⟨b,o,by rw[cr];simp,by rw[CC,aq];simp,ai⟩
  ·have gb:=dH x bR U c1;obtain⟨b',o',ab,ad,aL⟩:=h.fS x bR gb;exact⟨b',o',by rw[cr,aZ c1];exact ab,by rw[CC,aZ (by have:=b9 x bR gb;omega)];exact ad,aL.mono kf⟩
 ·intro x y ht hz ew U au n0;by_cases c1:x=H.ay
  ·subst c1;rw[bL.jP] at U;injection U with U;subst U
   have:=b9 y hz (dH y hz au (Ne.symm ew));omega
  ·by_cases ky:y=H.ay
   ·subst ky;rw[bL.jP] at au;injection au with au;subst au
    have:=b9 x ht (dH x ht U c1);omega
   ·rcases h.sep x y ht hz ew (dH x ht U c1) (dH y hz au ky) n0 with d|d|⟨f,l,⟨c,e,z,s,q⟩,⟨c',bC,g3,cQ,dj⟩,ap,cL,eA⟩
    ·exact .inl (by rw[cr,aZ c1];exact d)
    ·exact .inr (.inl (by rw[cr,aZ ky];exact d))
    ·exact .inr (.inr ⟨f,l,⟨c,e,z,s,by rw[cr,aZ c1];exact q⟩,⟨c',bC,g3,cQ,by rw[cr,aZ ky];exact dj⟩,aiv f l (h.qS _ _ _ _ _ _ q) ap,cL,eA⟩)
 ·intro x bR U;by_cases c1:x=H.ay
  ·omega
  ·have:=h.lt x bR (dH x bR U c1);omega
 ·intro x bR U ax;rw[dK] at ax;have c1:x≠H.ay:=by have:=h.kc;omega
  exact h.own x bR (dH x bR U c1) ax
 ·intro x bR U ax dP;rw[dK] at ax;by_cases c1:x=H.ay
  ·subst c1;rw[bL.jP] at U;injection U with U;subst U
   rw[aq];exact fun q=>BM _ (h.nK _ q)
  ·exact h.new x bR (dH x bR U c1) ax (by rw[cr,aZ c1] at dP;exact dP)
 ·intro g c e o f z s ax hm;rw[dK] at ax;have Ac:g≠H.ay:=by have:=h.kc;omega
  rw[cr,aZ Ac] at hm;obtain⟨bR,a4⟩:=h.te g c e o f z s ax hm;exact⟨bR,kf _ _ a4⟩
 ·rw[dK,aw];have:=h.kc;omega
 ·intro x c e f z s hm;rw[cr] at hm;split at hm
  ·injection hm with hm;exact ai9 c e f z s hm
  ·exact hA (h.qS x c e f z s hm) Pa
 ·intro f l x ap U;rcases oy f l ap with ap|⟨rfl,ah⟩
  ·obtain⟨a,d⟩:=h.kR f l x ap U;have c1:x≠H.ay:=by omega
   refine⟨by omega,?_⟩;rw[cr,aZ c1];exact d
  ·simp at U;subst U;exact⟨by omega,.inl (by rw[cr];simpa using ah)⟩
 ·intro f l ap;rcases oy f l ap with ap|⟨rfl,_⟩
  ·refine(h.uL f l ap).imp_of_mem ?_;intro x y U au ew c e f1 z s c' bC f' g3 cQ q dj;have gb:=(h.kR f l x ap U).1;have yz:=(h.kR f l y ap au).1;rw[cr,aZ (by omega)] at q dj;exact ew c e _ z s c' bC f' g3 cQ q dj
  ·exact abA _ _
 ·intro x U hj;have c1:x≠H.ay:=by omega
  exact⟨by rw[bL.tO _ _ c1];exact hj,fun _=>by rw[cr,aZ c1]⟩
theorem bX.made(h:bX P B w0 μ H w){id:Nat}{b:e3}{o:Obj}{L:Loc}(az:H.new b=some (id,H'))(ah:j1 (some b)=false)(aq:L.r=w.heap.size)(ai:jx P (μ.put H.ay L) L b o):
 bX P B w0 (μ.put H.ay L) H' (w.alloc o)/\Step μ (μ.put H.ay L) H H'/\id=H.ay:=by
 obtain⟨rfl,aw,aR,cf,dK,cr⟩:=an.oG az;obtain⟨a,b⟩:=h.XK (H':=H') aw dK cr (by omega) (fun f l x=>.inl (by rw[<-aR];exact x)) (fun f l _ x=>by rw[aR];exact x) (fun c e f z s q=>by rw[q] at ah;simp[j1] at ah) aq ai;exact⟨a,b,rfl⟩
theorem bX.Qp(h:bX P B w0 μ H w){id:Nat}{cells:List Value}{elem:TypeId}{sh:Bool}{o:Obj}{L:Loc}(az:H.n8 cells elem sh=some (id,H'))(aq:L.r=w.heap.size)
 (ai:∀f,jx P (μ.put H.ay L) L (.row cells elem true f 0 sh) o):
 bX P B w0 (μ.put H.ay L) H' (w.alloc o)/\Step μ (μ.put H.ay L) H H'/\id=H.ay:=by
 unfold an.n8 at az;cases aA:H.ve with
 |none=>rw[aA] at az;cases az
 |some p=>
  obtain⟨f,H1⟩:=p;rw[aA] at az;obtain⟨rfl,a7,bc,cu,c9,cI⟩:=an.Kz aA;obtain⟨rfl,aw,aR,cf,dK,cr⟩:=an.oG az
  obtain⟨x,y⟩:=h.XK (H':=H') (b:=.row cells elem true H.cn 0 sh) (o:=o) (L:=L) (by omega) (by rw[dK,c9]) (fun m=>by rw[cr,a7,bc]) (by omega)
   (fun f l ap=>by
    rw[aR,cI] at ap;split at ap
    ·injection ap with ap;exact .inr ⟨ap.symm,rfl⟩
    ·exact .inl ap)
   (fun f l aA ap=>by rw[aR,cI,aZ (by omega)];exact ap)
   (fun c e f z s q=>by injection q with _ _ _ q;omega) aq (ai _)
  exact⟨x,y,a7⟩
theorem bX.write(h:bX P B w0 μ H w){id:Nat}{L:Loc}{b':e3}{o':Obj}(a4:μ id=some L)(ax:H.bz<=id)(uW:H.mem.get id≠some .dead)
 (aw:H'.ay=H.ay)(aR:H'.cn=H.cn)(cf:H'.bz=H.bz)(B':H'.mem.get id=some b')
 (bx:∀x,x≠id->H'.mem.get x=H.mem.get x\/(H'.mem.get x=some .dead/\(j1 (H.mem.get x)=true\/H.mem.get x=some .dead)))
 (afA:∀x bR,x≠id->μ x=some bR->bR.r=L.r->H'.mem.get x=some .dead)
 (Np:∀f l,H.bw.get f=some l->H'.bw.get f=some l\/∀x y,x∈l->y∈l->x≠y->H'.mem.get x=some .dead\/H'.mem.get y=some .dead)
 (EW:∀f l,H'.bw.get f=some l->H.bw.get f=some l\/(l=[id]/\j1 (some b')=true))
 (eg:∀c e f z s,b'=.row c e true f z s->∃c' bC g3 cQ,H.mem.get id=some (.row c' bC true f g3 cQ)/\c'.length=c.length)
 (V5:j1 (H.mem.get id)=true->j1 (some b')=true)(ai:jx P μ L b' o'):
 bX P B w0 μ H' {w with heap:=w.heap.setIfInBounds L.r o'}/\Step μ μ H H':=by
 have q4:∀x,H.mem.get x=some .dead->H'.mem.get x=some .dead:=fun x U=>by
  have dQ:x≠id:=fun e=>uW (e▸U);rcases bx x dQ with q|q
  ·rw[q,U]
  ·exact q.1
 have oy:∀x f,w1 H x f->H'.mem.get x=some .dead\/w1 H' x f:=fun x f U=>by
  obtain⟨c,e,z,s,q⟩:=U;by_cases jr:x=id
  ·subst jr;right
   have ah:=V5 (by rw[q];rfl);cases b' with
   |row bp wa Dm f1 dI s1=>
    simp only[j1] at ah;subst ah;obtain⟨c',bC,g3,cQ,dj,_⟩:=eg bp wa f1 dI s1 rfl;rw[q] at dj;injection dj with dj;injection dj with _ _ _ anX;subst anX
    exact⟨bp,wa,dI,s1,B'⟩
   |_=>simp[j1] at ah
  ·rcases bx x jr with p|p
   ·right;exact⟨c,e,z,s,by rw[p];exact q⟩
   ·left;exact p.1
 have Oa:L.r<w.heap.size:=by
  obtain⟨b,o,_,ah,_⟩:=h.fS id L a4;rcases hL L.r w.heap.size with cT|cT
  ·exact cT
  ·rw[sE cT] at ah;cases ah
 have Jh:=h.new id L a4 ax uW;have mG:∀r,({w with heap:=w.heap.setIfInBounds L.r o'}:World).heap[r]?=if r=L.r then some o' else w.heap[r]?:=fun r=>by
  show(w.heap.setIfInBounds L.r o')[r]?=_;rw[zg];by_cases aq:L.r=r
  ·subst aq;simp[Oa]
  ·rw[aZ aq,aZ (Ne.symm aq)]
 have kV:∀x c e f z s,H'.mem.get x=some (.row c e true f z s)->∃c' bC g3 cQ,H.mem.get x=some (.row c' bC true f g3 cQ)/\c'.length=c.length:=fun x c e f z s hm=>by
  by_cases jr:x=id
  ·subst jr;rw[B'] at hm;injection hm with hm
   exact eg c e f z s hm
  ·rcases bx x jr with q|q
   ·rw[q] at hm;exact⟨c,e,z,s,hm,rfl⟩
   ·rw[q.1] at hm;cases hm
 refine⟨⟨⟨h.below.os,h.below.tape,h.below.output,?_,?_⟩,?_,?_,?_,?_,?_,?_,?_,?_,?_,?_,?_⟩,⟨Ext.refl _,by omega,cf,?_⟩⟩
 ·show w0.heap.size<=(w.heap.setIfInBounds L.r o').size;rw[HX];exact h.below.size
 ·intro k hk;rw[mG,aZ (fun e=>by subst e;exact Jh hk)];exact h.below.block k hk
 ·intro k hk;show k<(w.heap.setIfInBounds L.r o').size;rw[HX];exact h.nK k hk
 ·intro x bR U;by_cases jr:x=id
  ·subst jr;rw[a4] at U;injection U with U;subst U
   exact⟨b',o',B',by rw[mG];simp,ai⟩
  ·by_cases aq:bR.r=L.r
   ·exact⟨.dead,o',afA x bR jr U aq,by rw[mG,a2 aq],by simp[jx]⟩
   ·obtain⟨b,o,cP,gW,nq⟩:=h.fS x bR U;rcases bx x jr with q|q
    ·exact⟨b,o,by rw[q];exact cP,by rw[mG,aZ aq];exact gW,nq⟩
    ·exact⟨.dead,o,q.1,by rw[mG,aZ aq];exact gW,by cases o<;>simp[jx]⟩
 ·intro x y ht hz ew U au n0;rcases h.sep x y ht hz ew U au n0 with d|d|⟨f,l,q,dj,ap,cL,eA⟩
  ·exact .inl (q4 x d)
  ·exact .inr (.inl (q4 y d))
  ·rcases oy x f q with d|q
   ·exact .inl d
   ·rcases oy y f dj with d|dj
    ·exact .inr (.inl d)
    ·rcases Np f l ap with dc|nd
     ·exact .inr (.inr ⟨f,l,q,dj,dc,cL,eA⟩)
     ·rcases nd x y cL eA ew with d|d
      ·exact .inl d
      ·exact .inr (.inl d)
 ·intro x bR U;rw[aw];exact h.lt x bR U
 ·intro x bR U gb;rw[cf] at gb;exact h.own x bR U gb
 ·intro x bR U gb dP;rw[cf] at gb;exact h.new x bR U gb fun q=>dP (q4 x q)
 ·intro g c e o f z s wF hm;rw[cf] at wF;have dQ:g≠id:=by omega
  rcases bx g dQ with q|q
  ·rw[q] at hm;exact h.te g c e o f z s wF hm
  ·rw[q.1] at hm;cases hm
 ·rw[cf,aw];exact h.kc
 ·intro x c e f z s hm;rw[aR];by_cases jr:x=id
  ·subst jr;rw[B'] at hm;injection hm with hm
   obtain⟨c',bC,g3,cQ,dj,_⟩:=eg c e f z s hm;exact h.qS _ _ _ _ _ _ dj
  ·rcases bx x jr with q|q
   ·rw[q] at hm;exact h.qS x c e f z s hm
   ·rw[q.1] at hm;cases hm
 ·intro f l x ap U;rw[aw];rcases EW f l ap with ap|⟨rfl,ah⟩
  ·obtain⟨a,d⟩:=h.kR f l x ap U;refine⟨a,?_⟩;rcases d with d|d
   ·by_cases jr:x=id
    ·subst jr;left;rw[B'];exact V5 d
    ·rcases bx x jr with q|q
     ·left;rw[q];exact d
     ·right;exact q.1
   ·right;exact q4 x d
  ·simp at U;subst U;exact⟨h.lt _ _ a4,.inl (by rw[B'];exact ah)⟩
 ·intro f l ap;rcases EW f l ap with ap|⟨rfl,_⟩
  ·refine(h.uL f l ap).imp ?_;intro x y ew c e f z s c' bC f' g3 cQ q dj;obtain⟨bp,wa,dI,s1,aK,aH⟩:=kV x c e f z s q;obtain⟨bN,asF,dB,s2,bJ,dU⟩:=kV y c' bC f' g3 cQ dj;have:=ew _ _ _ _ _ _ _ _ _ _ aK bJ;omega
  ·exact abA _ _
 ·intro x U hj;refine⟨hj,fun ah=>?_⟩;have jr:x≠id:=fun e=>by subst e;rw[a4] at hj;cases hj
  rcases bx x jr with q|q
  ·exact q
  ·rcases q.2 with r|r
   ·rw[ah] at r;cases r
   ·rw[q.1,r]
theorem bX.kill(h:bX P B w0 μ H w)(aw:H'.ay=H.ay)(aR:H'.cn=H.cn)(cf:H'.bz=H.bz)
 (bx:∀x,H'.mem.get x=H.mem.get x\/(H'.mem.get x=some .dead/\(j1 (H.mem.get x)=true\/H.mem.get x=some .dead)))
 (Np:∀f l,H.bw.get f=some l->∃l',H'.bw.get f=some l'/\l'.Sublist l/\∀x,x∈l->x∉l'->H'.mem.get x=some .dead)
 (EW:∀f l',H'.bw.get f=some l'->∃l,H.bw.get f=some l/\l'.Sublist l):
 bX P B w0 μ H' w/\Step μ μ H H':=by
 have q4:∀x,H.mem.get x=some .dead->H'.mem.get x=some .dead:=fun x U=>by
  rcases bx x with q|q
  ·rw[q,U]
  ·exact q.1
 have oy:∀x f,w1 H x f->H'.mem.get x=some .dead\/w1 H' x f:=fun x f U=>by
  obtain⟨c,e,z,s,q⟩:=U;rcases bx x with p|p
  ·right;exact⟨c,e,z,s,by rw[p];exact q⟩
  ·left;exact p.1
 have kV:∀x c e f z s,H'.mem.get x=some (.row c e true f z s)->H.mem.get x=some (.row c e true f z s):=fun x c e f z s hm=>by
  rcases bx x with q|q
  ·rw[q] at hm;exact hm
  ·rw[q.1] at hm;cases hm
 refine⟨⟨h.below,h.nK,?_,?_,?_,?_,?_,?_,?_,?_,?_,?_⟩,⟨Ext.refl _,by omega,cf,?_⟩⟩
 ·intro x bR U;obtain⟨b,o,cP,gW,nq⟩:=h.fS x bR U;rcases bx x with q|q
  ·exact⟨b,o,by rw[q];exact cP,gW,nq⟩
  ·exact⟨.dead,o,q.1,gW,by cases o<;>simp[jx]⟩
 ·intro x y ht hz ew U au n0;rcases h.sep x y ht hz ew U au n0 with d|d|⟨f,l,q,dj,ap,cL,eA⟩
  ·exact .inl (q4 x d)
  ·exact .inr (.inl (q4 y d))
  ·rcases oy x f q with d|q
   ·exact .inl d
   ·rcases oy y f dj with d|dj
    ·exact .inr (.inl d)
    ·obtain⟨l',ab,_,aL⟩:=Np f l ap;by_cases kw:x∈l'
     ·by_cases wV:y∈l'
      ·exact .inr (.inr ⟨f,l',q,dj,ab,kw,wV⟩)
      ·exact .inr (.inl (aL y eA wV))
     ·exact .inl (aL x cL kw)
 ·intro x bR U;rw[aw];exact h.lt x bR U
 ·intro x bR U gb;rw[cf] at gb;exact h.own x bR U gb
 ·intro x bR U gb dP;rw[cf] at gb;exact h.new x bR U gb fun q=>dP (q4 x q)
 ·intro g c e o f z s wF hm;rw[cf] at wF;rcases bx g with q|q
  ·rw[q] at hm;exact h.te g c e o f z s wF hm
  ·rw[q.1] at hm;cases hm
 ·rw[cf,aw];exact h.kc
 ·intro x c e f z s hm;rw[aR];exact h.qS x c e f z s (kV x c e f z s hm)
 ·intro f l x ap U;rw[aw];obtain⟨l0,ab,ad⟩:=EW f l ap;obtain⟨a,d⟩:=h.kR f l0 x ab (ad.mem U);refine⟨a,?_⟩;rcases bx x with q|q
  ·rw[q];exact d
  ·right;exact q.1
 ·intro f l ap;obtain⟨l0,ab,ad⟩:=EW f l ap;refine((h.uL f l0 ab).sublist ad).imp ?_;intro x y ew c e f z s c' bC f' g3 cQ q dj;exact ew _ _ _ _ _ _ _ _ _ _ (kV _ _ _ _ _ _ q) (kV _ _ _ _ _ _ dj)
 ·intro x U hj;refine⟨hj,fun ah=>?_⟩;rcases bx x with q|q
  ·exact q
  ·rcases q.2 with r|r
   ·rw[ah] at r;cases r
   ·rw[q.1,r]
theorem ZR(h:bX P B w0 μ H w){f:Nat}{l l0:List Nat}{cells:List Value}{elem:TypeId}{ef:Nat}{sh:Bool}(ap:H.bw.get f=some l0)(re:l.Sublist l0)
 (cr:∀m,H'.mem.get m=if m=H.ay then some (.row cells elem true f ef sh) else H.mem.get m)
 (hB:∀m,H'.bw.get m=if m=f then some (H.ay::l) else H.bw.get m)(wS:∀y∈l,∀c e f z s,H.mem.get y=some (.row c e true f z s)->c.length<=cells.length):
 ∀f' l',H'.bw.get f'=some l'->Mm H' l':=by
 have Yp:∀f' l',H.bw.get f'=some l'->Mm H' l':=fun f' l' dc=>by
  refine(h.uL f' l' dc).imp_of_mem ?_;intro x y U au ew c e f1 z s c' bC f2 g3 cQ q dj;have gb:=(h.kR f' l' x dc U).1;have yz:=(h.kR f' l' y dc au).1;rw[cr,aZ (by omega)] at q dj;exact ew _ _ _ _ _ _ _ _ _ _ q dj
 intro f' l' dc;rw[hB] at dc;split at dc
 ·injection dc with dc;subst dc
  refine List.pairwise_cons.2 ⟨fun y au c e f1 z s c' bC f2 g3 cQ q dj=>?_,(Yp f l0 ap).sublist re⟩;have yz:=(h.kR f l0 y ap (re.mem au)).1;rw[cr,a2 rfl] at q;rw[cr,aZ (by omega)] at dj;injection q with q;injection q with q;subst q
  exact wS y au _ _ _ _ _ dj
 ·exact Yp f' l' dc
theorem bX.YQ(h:bX P B w0 μ H w){f:Nat}{l l0:List Nat}{cells:List Value}{elem:TypeId}{ef:Nat}{sh:Bool}{o:Obj}{L:Loc}(ap:H.bw.get f=some l0)(re:l.Sublist l0)(F0:∀x,x∈l0->x∉l->H.mem.get x=some .dead)(aA:f<H.cn)
 (aw:H'.ay=H.ay+1)(aR:H'.cn=H.cn)(dK:H'.bz=H.bz)(cr:∀m,H'.mem.get m=if m=H.ay then some (.row cells elem true f ef sh) else H.mem.get m)
 (hB:∀m,H'.bw.get m=if m=f then some (H.ay::l) else H.bw.get m)(wS:∀y∈l,∀c e f z s,H.mem.get y=some (.row c e true f z s)->c.length<=cells.length)
 (aq:L.r=w.heap.size)(ai:jx P (μ.put H.ay L) L (.row cells elem true f ef sh) o):
 bX P B w0 (μ.put H.ay L) H' (w.alloc o)/\Step μ (μ.put H.ay L) H H':=by
 have kf:=h.uK L;have dH:∀x bR,(μ.put H.ay L) x=some bR->x≠H.ay->μ x=some bR:=fun x bR a b=>by rwa [bL.tO _ _ b] at a
 have b9:∀x bR,μ x=some bR->bR.r<w.heap.size:=fun x bR U=>by
  obtain⟨b',o',_,ah,_⟩:=h.fS x bR U;rcases hL bR.r w.heap.size with cT|cT
  ·exact cT
  ·rw[sE cT] at ah;cases ah
 refine⟨⟨h.below.alloc h.nK o,?_,?_,?_,?_,?_,?_,?_,?_,?_,?_,?_⟩,⟨kf,by omega,dK,?_⟩⟩
 ·intro k hk;have:=h.nK k hk;show k<(w.heap.push o).size;rw[Sr];omega
 ·intro x bR U;by_cases c1:x=H.ay
  ·subst c1;rw[bL.jP] at U;injection U with U;subst U
   exact⟨_,o,by rw[cr];simp,by rw[CC,aq];simp,ai⟩
  ·have gb:=dH x bR U c1;obtain⟨b',o',ab,ad,aL⟩:=h.fS x bR gb;exact⟨b',o',by rw[cr,aZ c1];exact ab,by rw[CC,aZ (by have:=b9 x bR gb;omega)];exact ad,aL.mono kf⟩
 ·intro x y ht hz ew U au n0;by_cases c1:x=H.ay
  ·subst c1;rw[bL.jP] at U;injection U with U;subst U
   have:=b9 y hz (dH y hz au (Ne.symm ew));omega
  ·by_cases ky:y=H.ay
   ·subst ky;rw[bL.jP] at au;injection au with au;subst au
    have:=b9 x ht (dH x ht U c1);omega
   ·rcases h.sep x y ht hz ew (dH x ht U c1) (dH y hz au ky) n0 with d|d|⟨f',l',⟨c,e,z,s,q⟩,⟨c',bC,g3,cQ,dj⟩,dc,cL,eA⟩
    ·exact .inl (by rw[cr,aZ c1];exact d)
    ·exact .inr (.inl (by rw[cr,aZ ky];exact d))
    ·by_cases p2:f'=f
     ·subst p2;rw[ap] at dc;injection dc with dc;subst dc
      by_cases di:x∈l
      ·by_cases eN:y∈l
       ·exact .inr (.inr ⟨f',H.ay::l,⟨c,e,z,s,by rw[cr,aZ c1];exact q⟩,⟨c',bC,g3,cQ,by rw[cr,aZ ky];exact dj⟩,by rw[hB];simp,by simp[di],by simp[eN]⟩)
       ·exact .inr (.inl (by rw[cr,aZ ky];exact F0 y eA eN))
      ·exact .inl (by rw[cr,aZ c1];exact F0 x cL di)
     ·exact .inr (.inr ⟨f',l',⟨c,e,z,s,by rw[cr,aZ c1];exact q⟩,⟨c',bC,g3,cQ,by rw[cr,aZ ky];exact dj⟩,by rw[hB,aZ p2];exact dc,cL,eA⟩)
 ·intro x bR U;by_cases c1:x=H.ay
  ·omega
  ·have:=h.lt x bR (dH x bR U c1);omega
 ·intro x bR U ax;rw[dK] at ax;have c1:x≠H.ay:=by have:=h.kc;omega
  exact h.own x bR (dH x bR U c1) ax
 ·intro x bR U ax dP;rw[dK] at ax;by_cases c1:x=H.ay
  ·subst c1;rw[bL.jP] at U;injection U with U;subst U
   rw[aq];exact fun q=>BM _ (h.nK _ q)
  ·exact h.new x bR (dH x bR U c1) ax (by rw[cr,aZ c1] at dP;exact dP)
 ·intro g c e o f z s ax hm;rw[dK] at ax;have Ac:g≠H.ay:=by have:=h.kc;omega
  rw[cr,aZ Ac] at hm;obtain⟨bR,a4⟩:=h.te g c e o f z s ax hm;exact⟨bR,kf _ _ a4⟩
 ·rw[dK,aw];have:=h.kc;omega
 ·intro x c e f' z s hm;rw[cr] at hm;split at hm
  ·injection hm with hm;injection hm with _ _ _ hm;omega
  ·have:=h.qS x c e f' z s hm;omega
 ·intro f' l' x dc U;rw[hB] at dc;split at dc
  ·injection dc with dc;subst dc
   simp at U;rcases U with U|U
   ·subst U;exact⟨by omega,.inl (by rw[cr];simp[j1])⟩
   ·obtain⟨a,d⟩:=h.kR f l0 x ap (re.mem U);exact⟨by omega,by rw[cr,aZ (by omega)];exact d⟩
  ·obtain⟨a,d⟩:=h.kR f' l' x dc U;exact⟨by omega,by rw[cr,aZ (by omega)];exact d⟩
 ·exact ZR h ap re cr hB wS
 ·intro x U hj;have c1:x≠H.ay:=by omega
  exact⟨by rw[bL.tO _ _ c1];exact hj,fun _=>by rw[cr,aZ c1]⟩
theorem bX.anJ(h:bX P B w0 μ H w){f id:Nat}{l l0:List Nat}{cells:List Value}{elem:TypeId}{ef:Nat}{sh:Bool}{o o':Obj}{L:Loc}(ap:H.bw.get f=some l0)(re:l.Sublist l0)(F0:∀x,x∈l0->x∉l->H.mem.get x=some .dead)(aA:f<H.cn)(a4:μ id=some L)(ax:H.bz<=id)(Jh:¬B L.r)
 (aw:H'.ay=H.ay+1)(aR:H'.cn=H.cn)(dK:H'.bz=H.bz)(cr:∀m,H'.mem.get m=if m=H.ay then some (.row cells elem true f ef sh) else H.mem.get m)
 (hB:∀m,H'.bw.get m=if m=f then some (H.ay::l) else H.bw.get m)(wS:∀y∈l,∀c e f z s,H.mem.get y=some (.row c e true f z s)->c.length<=cells.length)
 (wM:∀y bR,μ y=some bR->bR.r=L.r->H.mem.get y=some .dead\/(w1 H y f/\y∈l/\∃b,H.mem.get y=some b/\jx P μ bR b o'))
 (ai:jx P μ L (.row cells elem true f ef sh) o'):
 bX P B w0 (μ.put H.ay L) H' {w with heap:=w.heap.setIfInBounds L.r o'}/\Step μ (μ.put H.ay L) H H':=by
 have _:=o;have kf:=h.uK L;have dH:∀x bR,(μ.put H.ay L) x=some bR->x≠H.ay->μ x=some bR:=fun x bR a b=>by rwa [bL.tO _ _ b] at a
 have Oa:L.r<w.heap.size:=by
  obtain⟨b,o,_,ah,_⟩:=h.fS id L a4;rcases hL L.r w.heap.size with cT|cT
  ·exact cT
  ·rw[sE cT] at ah;cases ah
 have mG:∀r,({w with heap:=w.heap.setIfInBounds L.r o'}:World).heap[r]?=if r=L.r then some o' else w.heap[r]?:=fun r=>by
  show(w.heap.setIfInBounds L.r o')[r]?=_;rw[zg];by_cases aq:L.r=r
  ·subst aq;simp[Oa]
  ·rw[aZ aq,aZ (Ne.symm aq)]
 have mh:w1 H' H.ay f:=⟨cells,elem,ef,sh,by rw[cr];simp⟩;have aiB:H'.bw.get f=some (H.ay::l):=by rw[hB];simp
 have side:∀y hz,y≠H.ay->μ y=some hz->hz.r=L.r->So H' H.ay y:=fun y hz ky au n0=>by
  rcases wM y hz au n0 with d|⟨⟨c,e,z,s,q⟩,m,_⟩
  ·exact .inr (.inl (by rw[cr,aZ ky];exact d))
  ·exact .inr (.inr ⟨f,_,mh,⟨c,e,z,s,by rw[cr,aZ ky];exact q⟩,aiB,by simp,by simp[m]⟩)
 refine⟨⟨⟨h.below.os,h.below.tape,h.below.output,?_,?_⟩,?_,?_,?_,?_,?_,?_,?_,?_,?_,?_,?_⟩,⟨kf,by omega,dK,?_⟩⟩
 ·show w0.heap.size<=(w.heap.setIfInBounds L.r o').size;rw[HX];exact h.below.size
 ·intro k hk;rw[mG,aZ (fun e=>by subst e;exact Jh hk)];exact h.below.block k hk
 ·intro k hk;show k<(w.heap.setIfInBounds L.r o').size;rw[HX];exact h.nK k hk
 ·intro x bR U;by_cases c1:x=H.ay
  ·subst c1;rw[bL.jP] at U;injection U with U;subst U
   exact⟨_,o',by rw[cr];simp,by rw[mG];simp,ai.mono kf⟩
  ·have gb:=dH x bR U c1;by_cases aq:bR.r=L.r
   ·rcases wM x bR gb aq with d|⟨_,_,b,aK,aH⟩
    ·exact⟨.dead,o',by rw[cr,aZ c1];exact d,by rw[mG,a2 aq],by cases o'<;>simp[jx]⟩
    ·exact⟨b,o',by rw[cr,aZ c1];exact aK,by rw[mG,a2 aq],aH.mono kf⟩
   ·obtain⟨b',Dm,ab,ad,aL⟩:=h.fS x bR gb;exact⟨b',Dm,by rw[cr,aZ c1];exact ab,by rw[mG,aZ aq];exact ad,aL.mono kf⟩
 ·intro x y ht hz ew U au n0;by_cases c1:x=H.ay
  ·subst c1;rw[bL.jP] at U;injection U with U;subst U
   exact side y hz (Ne.symm ew) (dH y hz au (Ne.symm ew)) n0.symm
  ·by_cases ky:y=H.ay
   ·subst ky;rw[bL.jP] at au;injection au with au;subst au
    rcases side x ht c1 (dH x ht U c1) n0 with d|d|⟨f',l',q,dj,dc,cL,eA⟩
    ·exact .inr (.inl d)
    ·exact .inl d
    ·exact .inr (.inr ⟨f',l',dj,q,dc,eA,cL⟩)
   ·rcases h.sep x y ht hz ew (dH x ht U c1) (dH y hz au ky) n0 with d|d|⟨f',l',⟨c,e,z,s,q⟩,⟨c',bC,g3,cQ,dj⟩,dc,cL,eA⟩
    ·exact .inl (by rw[cr,aZ c1];exact d)
    ·exact .inr (.inl (by rw[cr,aZ ky];exact d))
    ·by_cases p2:f'=f
     ·subst p2;rw[ap] at dc;injection dc with dc;subst dc
      by_cases di:x∈l
      ·by_cases eN:y∈l
       ·exact .inr (.inr ⟨f',H.ay::l,⟨c,e,z,s,by rw[cr,aZ c1];exact q⟩,⟨c',bC,g3,cQ,by rw[cr,aZ ky];exact dj⟩,by rw[hB];simp,by simp[di],by simp[eN]⟩)
       ·exact .inr (.inl (by rw[cr,aZ ky];exact F0 y eA eN))
      ·exact .inl (by rw[cr,aZ c1];exact F0 x cL di)
     ·exact .inr (.inr ⟨f',l',⟨c,e,z,s,by rw[cr,aZ c1];exact q⟩,⟨c',bC,g3,cQ,by rw[cr,aZ ky];exact dj⟩,by rw[hB,aZ p2];exact dc,cL,eA⟩)
 ·intro x bR U;by_cases c1:x=H.ay
  ·omega
  ·have:=h.lt x bR (dH x bR U c1);omega
 ·intro x bR U ax;rw[dK] at ax;have c1:x≠H.ay:=by have:=h.kc;omega
  exact h.own x bR (dH x bR U c1) ax
 ·intro x bR U ax dP;rw[dK] at ax;by_cases c1:x=H.ay
  ·subst c1;rw[bL.jP] at U;injection U with U;subst U
   exact Jh
  ·exact h.new x bR (dH x bR U c1) ax (by rw[cr,aZ c1] at dP;exact dP)
 ·intro g c e o f z s ax hm;rw[dK] at ax;have Ac:g≠H.ay:=by have:=h.kc;omega
  rw[cr,aZ Ac] at hm;obtain⟨bR,a4⟩:=h.te g c e o f z s ax hm;exact⟨bR,kf _ _ a4⟩
 ·rw[dK,aw];have:=h.kc;omega
 ·intro x c e f' z s hm;rw[cr] at hm;split at hm
  ·injection hm with hm;injection hm with _ _ _ hm;omega
  ·have:=h.qS x c e f' z s hm;omega
 ·intro f' l' x dc U;rw[hB] at dc;split at dc
  ·injection dc with dc;subst dc
   simp at U;rcases U with U|U
   ·subst U;exact⟨by omega,.inl (by rw[cr];simp[j1])⟩
   ·obtain⟨a,d⟩:=h.kR f l0 x ap (re.mem U);exact⟨by omega,by rw[cr,aZ (by omega)];exact d⟩
  ·obtain⟨a,d⟩:=h.kR f' l' x dc U;exact⟨by omega,by rw[cr,aZ (by omega)];exact d⟩
 ·exact ZR h ap re cr hB wS
 ·intro x U hj;have c1:x≠H.ay:=by omega
  exact⟨by rw[bL.tO _ _ c1];exact hj,fun _=>by rw[cr,aZ c1]⟩
theorem Kh{pp:Nat}:∀{l:List Nat} {H H':an},se H pp l=some H'->H'.ay=H.ay/\H'.bw=H.bw/\H'.cn=H.cn/\H'.bz=H.bz/\
 (∀x,x∈l->x≠pp->H'.mem.get x=some .dead)/\(∀x,x∉l\/x=pp->H'.mem.get x=H.mem.get x):=by
 intro l;induction l with
 |nil=>intro H H' h;simp[se] at h;subst h;exact⟨rfl,rfl,rfl,rfl,fun x U=>by simp at U,fun x _=>rfl⟩
 |cons y l aP=>
  intro H H' h;simp only[se] at h;cases au:Nat.beq y pp with
  |true=>
   rw[au] at h;have Gl:=eb au;obtain⟨a7,bc,cu,c9,cI,ee⟩:=aP (by simpa using h);refine⟨a7,bc,cu,c9,fun x U dQ=>?_,fun x U=>?_⟩
   ·simp at U;rcases U with rfl|U
    ·exact absurd Gl dQ
    ·exact cI x U dQ
   ·refine ee x ?_;rcases U with U|U
    ·left;simp at U;exact U.2
    ·right;exact U
  |false=>
   rw[au] at h;have Gl:y≠pp:=fun e=>by subst e;simp at au
   simp only[da] at h;cases hu:H.upd y .dead with
   |none=>rw[hu] at h;cases h
   |some H1=>
    rw[hu] at h;obtain⟨bs,bM,cB,ep,fw⟩:=an.qv hu;obtain⟨a7,bc,cu,c9,cI,ee⟩:=aP h;refine⟨by omega,by rw[bc,bM],by omega,by omega,fun x U dQ=>?_,fun x U=>?_⟩
    ·by_cases kw:x∈l
     ·exact cI x kw dQ
     ·have ew:x=y:=by simp at U;rcases U with q|q;exact q;exact absurd q kw
      rw[ee x (.inl kw),fw,a2 ew]
    ·have ew:x≠y:=by
      rcases U with q|q
      ·simp at q;exact q.1
      ·rw[q];exact Ne.symm Gl
     have:x∉l\/x=pp:=by
      rcases U with q|q
      ·left;simp at q;exact q.2
      ·right;exact q
     rw[ee x this,fw,aZ ew]
theorem aeo{id:Nat}:∀{l l':List Nat} {H H':an},x7 H id l=some (l',H')->H'.ay=H.ay/\H'.bw=H.bw/\H'.cn=H.cn/\H'.bz=H.bz/\l'.Sublist l/\id∈l'/\H'.mem.get id=H.mem.get id/\
 (∀x,x∈l->x∉l'->H'.mem.get x=some .dead)/\(∀x,H'.mem.get x=H.mem.get x\/(H'.mem.get x=some .dead/\x∈l))/\(∃pre,l=pre++l'/\l'=id::l'.tail):=by
 intro l;induction l with
 |nil=>intro l' H H' h;simp[x7] at h
 |cons y l aP=>
  intro l' H H' h;simp only[x7] at h;cases au:Nat.beq y id with
  |true=>
   rw[au,b4] at h;simp only[cl,dm] at h;obtain⟨rfl,rfl⟩:=h;have:=eb au;subst this;exact⟨rfl,rfl,rfl,rfl,ih _,by simp,rfl,fun x a b=>absurd a b,fun x=>.inl rfl,[],rfl,rfl⟩
  |false=>
   rw[au,da] at h;have Gl:y≠id:=fun e=>by subst e;simp at au
   cases hu:H.upd y .dead with
   |none=>rw[hu] at h;cases h
   |some H1=>
    rw[hu] at h;obtain⟨bs,bM,cB,ep,fw⟩:=an.qv hu;obtain⟨a7,bc,cu,c9,cI,ee,fh,j7,nI,pre,rL,pS⟩:=aP h;refine⟨by omega,by rw[bc,bM],by omega,by omega,cI.cons _,ee,by rw[fh,fw,aZ (Ne.symm Gl)],fun x U kw=>?_,fun x=>?_,y::pre,by rw[rL];rfl,pS⟩
    ·by_cases gb:x∈l
     ·exact j7 x gb kw
     ·have ew:x=y:=by simp at U;rcases U with q|q;exact q;exact absurd q gb
      rcases nI x with q|q
      ·rw[q,fw,a2 ew]
      ·exact q.1
    ·rcases nI x with q|q
     ·rw[fw] at q;split at q
      ·rename_i ew;exact .inr ⟨q,by simp[ew]⟩
      ·exact .inl q
     ·exact .inr ⟨q.1,by simp[q.2]⟩
end
end
end Go.Cre
namespace Go.Cre
noncomputable section
open Go.RowKit
def qu(c:Array Value)(n:Nat):List Value->Array Value
 |[]=>c
 |v::vs=>qu (c.setIfInBounds n v) (n+1) vs
theorem RB(vs:List Value):∀(c:Array Value) (n:Nat),(qu c n vs).size=c.size:=by
 induction vs with
 |nil=>intro c n;rfl
 |cons v vs aP=>intro c n;rw[qu,aP];simp
theorem Lh(vs:List Value):∀(c:Array Value) (n i:Nat),n+vs.length<=c.size->(qu c n vs)[i]?=if n<=i/\i<n+vs.length then vs[i -n]? else c[i]?:=by
 induction vs with
 |nil=>intro c n i h;simp[qu];omega
 |cons v vs aP=>
  intro c n i h;simp only[lc] at h;rw[qu,aP _ _ _ (by simp;omega)];rw[zg];by_cases ab:n=i
  ·subst ab;rw[aZ (by omega),a2 rfl,a2 (by omega),a2 (by simp)];simp
  ·by_cases ad:n+1<=i/\i<n+1+vs.length
   ·rw[a2 ad,a2 (by simp;omega)];rw[show i -n=(i -(n+1))+1 from by omega,SO]
   ·rw[aZ ad,aZ ab,aZ (by simp;omega)]
theorem amA(v:Value):v.oneCell'=eV v:=by cases v<;>rfl
theorem Addr.qI(b o i:Nat):(⟨b,o,none⟩:Addr).add i=⟨b,o+i,none⟩:=by
 unfold Addr.add;split<;>simp_all
section
variable {P:Program}
theorem cell_of_row{w:World}{r:Nat}{c:Array Value}{e:TypeId}{f:Nat×Nat}(h:w.heap[r]?=some (.cells c e f))(o:Nat):w.cell? ⟨r,o,none⟩=c[o]?:=by
 simp[World.cell?,h]
theorem frozen_of_row{w:World}{r:Nat}{c:Array Value}{e:TypeId}{f:Nat×Nat}(h:w.heap[r]?=some (.cells c e f))(o:Nat):w.frozen? ⟨r,o,none⟩=(decide (f.1<=o)&&decide (o<f.2)):=by
 simp[World.frozen?,h]
theorem ZE{w:World}{r:Nat}{c:Array Value}{e:TypeId}{f:Nat×Nat}(h:w.heap[r]?=some (.cells c e f))(o:Nat)(v:Value):
 w.setCell ⟨r,o,none⟩ v={w with heap:=w.heap.setIfInBounds r (.cells (c.setIfInBounds o v) e f)}:=by
 have aq:r<w.heap.size:=by
  rcases hL r w.heap.size with cT|cT
  ·exact cT
  ·rw[sE cT] at h;cases h
 unfold World.setCell;congr 1
 apply DW
 intro i;rw[aa8,zg];by_cases ak:r=i
 ·subst ak;rw[a2 rfl,a2 rfl,h,a2 aq];rfl
 ·simp[ak]
theorem Zx(r off:Nat)(e:TypeId)(f:Nat×Nat):∀(vs:List Value) (i:Nat) (c:Array Value) (w:World),w.heap[r]?=some (.cells c e f)->off+i+vs.length<=c.size->
 (∀j,j<vs.length->¬(f.1<=off+i+j/\off+i+j<f.2))->(∀v∈vs,eV v=true)->
 (storeCells ⟨r,off,none⟩ vs i).run P w=.ok () {w with heap:=w.heap.setIfInBounds r (.cells (qu c (off+i) vs) e f)}:=by
 intro vs;induction vs with
 |nil=>
  intro i c w h _ _ _;have aq:r<w.heap.size:=by
   rcases hL r w.heap.size with cT|cT
   ·exact cT
   ·rw[sE cT] at h;cases h
  have:w.heap.setIfInBounds r (.cells c e f)=w.heap:=by
   apply DW
   intro j;rw[zg];split
   ·rename_i aY;subst aY;exact h.symm
   ·rfl
  simp[storeCells,qu,this]
 |cons v vs aP=>
  intro i c w h ap aA ab;simp only[lc] at ap aA;have aq:r<w.heap.size:=by
   rcases hL r w.heap.size with cT|cT
   ·exact cT
   ·rw[sE cT] at h;cases h
  have dn:(store ((⟨r,off,none⟩:Addr).add i) v).run P w=.ok () (w.setCell ⟨r,off+i,none⟩ v):=by
   rw[Addr.qI,run_store P w _ v _ (by rw[amA];exact ab v (by simp))];have aG:=aA 0 (by omega);have aD:w.cell? ⟨r,off+i,none⟩=some (c[off+i]'(by omega)):=by
    rw[cell_of_row h,zf (by omega)]
   have J9:w.frozen? ⟨r,off+i,none⟩=false:=by
    rw[frozen_of_row h];simp only[ik] at aG;by_cases q:f.1<=off+i
    ·have:¬(off+i<f.2):=fun x=>aG ⟨q,x⟩;simp[this]
    ·simp[q]
   simp[aD,J9]
  have hw:(w.setCell ⟨r,off+i,none⟩ v).heap[r]?=some (.cells (c.setIfInBounds (off+i) v) e f):=by
   rw[ZE h];show(w.heap.setIfInBounds r _)[r]?=_;rw[zg];simp[aq]
  have:=aP (i+1) (c.setIfInBounds (off+i) v) (w.setCell ⟨r,off+i,none⟩ v) hw (by simp;omega) (fun j aY=>by
   have:=aA (j+1) (by omega);rwa [show off+i+(j+1)=off+(i+1)+j from by omega] at this) (fun x U=>ab x (by simp[U]))
  simp only[storeCells,Sem.run_bind,dn,Result.andThen_ok,this,qu];rw[ZE h,show off+(i+1)=off+i+1 from by omega];congr 2
  show(w.heap.setIfInBounds r _).setIfInBounds r _=_;apply DW
  intro j;simp only[zg,HX];split<;>rfl
variable {B:Nat->Prop}{w0 w:World}{μ:bL}{H H':an}
theorem UO{N ef:Nat}{sh:Bool}{f:Nat×Nat}(h:NO N ef sh f){o:Nat}(ah:o<N)(aG:ef<=o):¬(f.1<=o/\o<f.2):=fun q=>by
 have:=h.1 o ah q.1 q.2;omega
theorem bX.aaY(h:bX P B w0 μ H w){id bw ef NP:Nat}{L:Loc}{cells cells':List Value}{elem:TypeId}{opn sh:Bool}{o':Obj}{H1:an}(a4:μ id=some L)(o9:H.bz<=id)(hm:H.mem.get id=some (.row cells elem opn bw ef sh))
 (s1:cells'.length=cells.length)(hu:H.upd id (.row cells' elem opn bw NP sh)=some H1)(he:(bif opn then yD H1 id bw else some H1)=some H')(ai:jx P μ L (.row cells' elem opn bw NP sh) o'):
 bX P B w0 μ H' {w with heap:=w.heap.setIfInBounds L.r o'}/\Step μ μ H H':=by
 obtain⟨u1,bU,tV,Be,sB⟩:=an.qv hu;have uW:H.mem.get id≠some .dead:=by rw[hm];simp
 cases opn with
 |false=>
  simp only[da] at he;injection he with he;subst he
  refine h.write a4 o9 uW u1 tV Be (by rw[sB];simp) (fun x U=>.inl (by rw[sB,aZ U])) ?_ (fun f l ap=>.inl (by rw[bU];exact ap)) (fun f l ap=>.inl (by rw[<-bU];exact ap))
   (fun c e f z s q=>by injection q with _ _ q;cases q) (fun q=>by rw[hm] at q;simp[j1] at q) ai
  intro x bR U ow aq;rcases h.sep id x L bR (Ne.symm U) a4 ow aq.symm with d|d|⟨f',l,⟨bp,aw,dI,Ld,q⟩,_⟩
  ·exact absurd d uW
  ·rw[sB,aZ U];exact d
  ·rw[hm] at q;injection q with q;injection q with _ _ q;cases q
 |true=>
  simp only[b4] at he;unfold yD at he;cases aA:H1.bw.get bw with
  |none=>rw[aA] at he;cases he
  |some l=>
   rw[aA] at he;simp only at he;cases hk:se H1 id l with
   |none=>rw[hk] at he;cases he
   |some bK=>
    rw[hk] at he;simp only at he;obtain⟨aU,aQ,bj,ct,fo,jN⟩:=Kh hk;obtain⟨bY,bZ,cz,fu,fM⟩:=an.DI he;have oy:H.bw.get bw=some l:=by rw[<-bU];exact aA
    have uT:H'.mem.get id=some (.row cells' elem true bw NP sh):=by rw[bZ,jN id (.inr rfl),sB];simp
    have V7:∀x,x≠id->x∉l->H'.mem.get x=H.mem.get x:=fun x U kw=>by rw[bZ,jN x (.inl kw),sB,aZ U]
    have tr:∀x,x≠id->x∈l->H'.mem.get x=some .dead:=fun x U kw=>by rw[bZ];exact fo x kw U
    refine h.write a4 o9 uW (by omega) (by omega) (by omega) uT ?_ ?_ ?_ ?_ ?_ (fun _=>rfl) ai
    ·intro x U;by_cases kw:x∈l
     ·exact .inr ⟨tr x U kw,(h.kR bw l x oy kw).2⟩
     ·exact .inl (V7 x U kw)
    ·intro x bR U ow aq;rcases h.sep id x L bR (Ne.symm U) a4 ow aq.symm with d|d|⟨f',l',⟨bp,aw,dI,Ld,q⟩,_,dc,_,eA⟩
     ·exact absurd d uW
     ·by_cases kw:x∈l
      ·exact tr x U kw
      ·rw[V7 x U kw];exact d
     ·rw[hm] at q;injection q with q;injection q with _ _ _ q;subst q
      rw[oy] at dc;injection dc with dc;subst dc
      exact tr x U eA
    ·intro f' l' dc;by_cases p2:f'=bw
     ·subst p2;rw[oy] at dc;injection dc with dc;subst dc
      right
      intro x y U au ew;by_cases jr:x=id
      ·right;exact tr y (fun e=>ew (by rw[jr,e])) au
      ·left;exact tr x jr U
     ·left;rw[fM,aZ p2,aQ,bU];exact dc
    ·intro f' l' dc;rw[fM] at dc;split at dc
     ·injection dc with dc;right;exact⟨dc.symm,rfl⟩
     ·left;rw[aQ,bU] at dc;exact dc
    ·intro bp aw f1 dI Ld q;injection q with hT _ _ q;subst q;subst hT
     exact⟨_,_,_,_,hm,s1.symm⟩
theorem I7(h:bX P B w0 μ H w){id off:Nat}{L:Loc}{vs mT:List Value}(a4:μ id=some L)(ar:bT μ vs mT)(he:rT H id off vs=some H'):
 ∃a5,(storeCells ⟨L.r,off,none⟩ mT).run P w=.ok () a5/\bX P B w0 μ H' a5/\Step μ μ H H':=by
 unfold rT at he;cases vs with
 |nil=>
  injection he with he;subst he
  have:=ar.kz;subst this;exact⟨w,rfl,h,Step.refl _ _⟩
 |cons v0 aaS=>
  simp only at he;generalize Ww:v0::aaS=vs at*;cases ax:Nat.blt id H.bz with
  |true=>rw[ax] at he;cases he
  |false=>
   rw[ax,da] at he;have o9:H.bz<=id:=by
    have:¬id<H.bz:=fun q=>by have:=lH q;unfold Nat.blt at ax;simp_all
    omega
   cases hm:H.mem.get id with
   |none=>rw[hm] at he;cases he
   |some b=>
    rw[hm] at he;cases b with
    |row cells elem opn bw ef sh=>
     simp only at he;cases aD:(Nat.ble ef off&&vs.all eV) with
     |false=>rw[aD] at he;cases he
     |true=>
      rw[aD,b4] at he;simp only[gg] at aD;have OL:=hv aD.1;cases hs:gf off cells vs with
      |none=>rw[hs] at he;cases he
      |some cells'=>
       rw[hs] at he;simp only at he;cases hu:H.upd id (.row cells' elem opn bw ef sh) with
       |none=>rw[hu] at he;cases he
       |some H1=>
        rw[hu] at he;simp only at he;obtain⟨s1,s2,fQ⟩:=RC hs;obtain⟨b,o,aK,aH,bJ⟩:=h.fS id L a4;rw[hm] at aK;injection aK with aK;subst aK
        cases o with
        |cells c e f=>
         obtain⟨cX,cW,eR,hH,tQ,K7,Hj⟩:=bJ;have lQ:=ar.1;have gG:=Zx (P:=P) L.r off e f mT 0 c w aH (by omega) (fun j aY=>by
          simp only[ik];exact UO Hj (by omega) (by omega)) (fun v p'=>by
          obtain⟨i,ak⟩:=zm.1 p';have ys:i<vs.length:=by
           have:=(gS.1 ak).1;omega
          have:=ar.2 i vs[i] v (dX ys) ak;rw[this.eV];exact rF.1 aD.2 _ (List.getElem_mem ys))
         simp only[ik] at gG;have ai:jx P μ L (.row cells' elem opn bw ef sh) (.cells (qu c off mT) e f):=by
          refine⟨cX,by rw[RB];exact cW,eR,by omega,fun ah=>by have:=tQ ah;omega,?_,Hj⟩;intro i v v' ak lp;rw[Lh _ _ _ _ (by omega)] at lp;rw[fQ] at ak;rw[<-lQ] at lp;split at ak
          ·rename_i tl;rw[a2 tl] at lp;exact ar.2 _ v v' ak lp
          ·rename_i tl;rw[aZ tl] at lp;exact K7 i v v' ak lp
         exact⟨_,gG,h.aaY a4 o9 hm s1 hu he ai⟩
        |_=>exact bJ.elim
    |_=>cases he
end
end
end Go.Cre

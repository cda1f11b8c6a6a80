/- A part of the proof of TableClose. -/
import Derived.Test.YtpahonhejmlnpaaGreatDoorCad
import Derived.Laws.Append
import Derived.Laws.AppendOwn
set_option linter.unusedVariables false
set_option linter.unusedSimpArgs false
namespace Go.Cre
noncomputable section
open Go.RowKit
def GK(N dS:Nat)(sh:Bool)(f:Nat×Nat):Prop:=(∀off,off<N->f.1<=off->off<f.2->off<dS)/\(sh=false->f.1=f.2\/f.2<=dS)
inductive r6 (μ:bz):List MapEntry->List MapEntry->Prop
 |nil:r6 μ [] []
 |cons (e bk:MapEntry) (es lb:List MapEntry):bk.key=e.key->plain e.key=true->bc μ e.val bk.val->r6 μ es lb->r6 μ (e::es) (bk::lb)
def uT(μ:bz)(es lb:List MapEntry):Prop:=∃l,l.Perm lb/\r6 μ es l
theorem r6.mono{μ bd:bz}{l m:List MapEntry}(h:r6 μ l m)(e:Ext μ bd):r6 bd l m:=by
 induction h with
 |nil=>exact .nil
 |cons a b es lb aa ab aY _ aP=>exact .cons a b es lb aa ab (aY.mono e) aP
theorem r6.length{μ:bz}{l m:List MapEntry}(h:r6 μ l m):l.length=m.length:=by
 induction h with
 |nil=>rfl
 |cons a b es lb aa ab aY _ aP=>simp[aP]
theorem uT.length{μ:bz}{l m:List MapEntry}(h:uT μ l m):l.length=m.length:=by
 obtain⟨k,aa,ab⟩:=h;rw[ab.length,aa.length_eq]
theorem uT.nil(μ:bz):uT μ [] []:=⟨[],.refl _,.nil⟩
def iE(μ:bz)(T:aQ Value)(n:Nat)(tmps:Array Value):Prop:=n<=tmps.size/\∀t v,T.get t=some v->bc μ v (tmps.getD t undef)
def ia(P:Program)(μ:bz)(L:Loc):eF->Obj->Prop
 |.row cells elem opn _ dS sh,.cells c e f=>e=elem/\c.size=L.N/\P.cellsOf elem=L.sz/\cells.length<=L.N/\(opn=false->cells.length=L.N)/\
  (∀(i:Nat) v v',cells[i]?=some v->c[i]?=some v'->bc μ v v')/\GK L.N dS sh f
 |.map es _,.map lb _=>uT μ es lb.toList
 |.loop l,.loop l'=>l'.state=l.state/\l'.pending=l.pending/\l'.params.toList=l.params/\l'.assign=l.assign/\l'.body=l.body/\iE μ l.T l.n l'.tmps/\∃bC,μ l.ft=some bC/\l'.defers=bC.r
 |.ft ds,.deferred en=>en=ds/\(ds=some []\/ds=none)
 |.dead,_=>True
 |_,_=>False
theorem iE.mono{μ bd:bz}{T:aQ Value}{n:Nat}{tmps:Array Value}(h:iE μ T n tmps)(e:Ext μ bd):iE bd T n tmps:=⟨h.1,fun t v x=>(h.2 t v x).mono e⟩
theorem ia.mono{P:Program}{μ bd:bz}{L:Loc}{b:eF}{o:Obj}(h:ia P μ L b o)(e:Ext μ bd):ia P bd L b o:=by
 cases b with
 |row cells elem opn bl dS sh=>
  cases o with
  |cells c bk f=>obtain⟨aa,ab,aY,bu,gI,hK,sA⟩:=h;exact⟨aa,ab,aY,bu,gI,fun i v v' a b=>(hK i v v' a b).mono e,sA⟩
  |_=>exact h
 |map es clock=>
  cases o with
  |map lb CI=>obtain⟨l,aa,ab⟩:=h;exact⟨l,aa,ab.mono e⟩
  |_=>exact h
 |loop l=>
  cases o with
  |loop l'=>obtain⟨aa,ab,aY,bu,gI,hK,bC,sA,WH⟩:=h;exact⟨aa,ab,aY,bu,gI,hK.mono e,bC,e _ _ sA,WH⟩
  |_=>exact h
 |ft ds=>
  cases o with
  |deferred en=>exact h
  |_=>exact h
 |dead=>cases o<;>trivial
def iJ:Option eF->Bool
 |some (.row _ _ opn _ _ _)=>opn
 |_=>false
def s3(H:ai)(id f:Nat):Prop:=∃c e z s,H.mem.get id=some (.row c e true f z s)
def KC(H:ai)(id kg:Nat):Prop:=
 H.mem.get id=some .dead\/H.mem.get kg=some .dead\/∃f l,s3 H id f/\s3 H kg f/\H.bl.get f=some l/\id∈l/\kg∈l
def FB(H:ai)(l:List Nat):Prop:=
 l.Pairwise fun x y=>∀c e f z s bw bk cz gi df,H.mem.get x=some (.row c e true f z s)->H.mem.get y=some (.row bw bk true cz gi df)->bw.length<=c.length
structure Kept (B:Nat->Prop) (w a7:World):Prop where
 os:a7.os=w.os
 tape:a7.tape=w.tape
 output:a7.output=w.output
 size:w.heap.size<=a7.heap.size
 block:∀k,B k->a7.heap[k]?=w.heap[k]?
theorem Kept.refl(B:Nat->Prop)(w:World):Kept B w w:=⟨rfl,rfl,rfl,c5 _,fun _ _=>rfl⟩
theorem Kept.trans{B:Nat->Prop}{a b c:World}(h:Kept B a b)(k:Kept B b c):Kept B a c:=
 ⟨k.os.trans h.os,k.tape.trans h.tape,k.output.trans h.output,eh h.size k.size,fun i ar=>(k.block i ar).trans (h.block i ar)⟩
theorem Kept.drew{B:Nat->Prop}{a w:World}(h:Kept B a w):Kept B a w.drew:=⟨h.os,h.tape,h.output,h.size,h.block⟩
theorem Kept.alloc{B:Nat->Prop}{a w:World}(h:Kept B a w)(ep:∀k,B k->k<w.heap.size)(o:Obj):Kept B a (w.alloc o):=
 h.trans ⟨rfl,rfl,rfl,by simp,fun k hk=>Below.heap_alloc _ _ _ (ep k hk)⟩
theorem Kept.below{n:Nat}{w a7:World}(h:Kept (fun k=>k<n) w a7):Below n w a7:=⟨h.os,h.tape,h.output,h.size,h.block⟩
theorem Kept.aa1{n:Nat}{B:Nat->Prop}{w a7:World}(h:Below n w a7)(ep:∀k,B k->k<n):Kept B w a7:=⟨h.os,h.tape,h.output,h.size,fun k hk=>h.block k (ep k hk)⟩
structure bL (P:Program) (B:Nat->Prop) (w0:World) (μ:bz) (H:ai) (w:World):Prop where
 below:Kept B w0 w
 lB:∀k,B k->k<w.heap.size
 e6:∀id L,μ id=some L->∃b o,H.mem.get id=some b/\w.heap[L.r]?=some o/\ia P μ L b o
 sep:∀id kg L bC,id≠kg->μ id=some L->μ kg=some bC->L.r=bC.r->KC H id kg
 lt:∀id L,μ id=some L->id<H.ax
 own:∀id L,μ id=some L->id<H.bp->L.r=id
 new:∀id L,μ id=some L->H.bp<=id->H.mem.get id≠some .dead->¬B L.r
 pT:∀g c e o f z s,g<H.bp->H.mem.get g=some (.row c e o f z s)->∃L,μ g=some L
 iN:H.bp<=H.ax
 n4:∀id c e f z s,H.mem.get id=some (.row c e true f z s)->f<H.b7
 jC:∀f l x,H.bl.get f=some l->x∈l->x<H.ax/\(iJ (H.mem.get x)=true\/H.mem.get x=some .dead)
 rk:∀f l,H.bl.get f=some l->FB H l
structure Step (μ bd:bz) (H H':ai):Prop where
 ext:Ext μ bd
 ax:H.ax<=H'.ax
 bp:H'.bp=H.bp
 ff:∀id,id<H.ax->μ id=none->bd id=none/\(iJ (H.mem.get id)=false->H'.mem.get id=H.mem.get id)
theorem Step.refl(μ:bz)(H:ai):Step μ μ H H:=⟨Ext.refl μ,c5 _,rfl,fun _ _ h=>⟨h,fun _=>rfl⟩⟩
theorem Step.trans{μ eE hS:bz}{H H1 bK:ai}(h:Step μ eE H H1)(k:Step eE hS H1 bK):Step μ hS H bK:=
 ⟨h.ext.trans k.ext,eh h.ax k.ax,k.bp.trans h.bp,fun id ar aw=>by
  obtain⟨a,b⟩:=h.ff id ar aw;obtain⟨c,d⟩:=k.ff id (jL ar h.ax) a;exact⟨c,fun ag=>by rw[d (by rw[b ag];exact ag),b ag]⟩⟩
theorem ai.nK{H H':ai}{id:Nat}{b:eF}(h:H.upd id b=some H'):H'.ax=H.ax/\H'.bl=H.bl/\H'.b7=H.b7/\H'.bp=H.bp/\∀m,H'.mem.get m=if m=id then some b else H.mem.get m:=by
 obtain⟨mem,ax,bl,b7,bp⟩:=H;simp only[ai.upd] at h;cases ao:aQ.put b mem id with
 |none=>rw[ao] at h;cases h
 |some m=>rw[ao] at h;injection h with h;subst h;exact⟨rfl,rfl,rfl,rfl,aQ.get_put ao⟩
theorem ai.mb{H H':ai}{id:Nat}{b:eF}(h:H.new b=some (id,H')):id=H.ax/\H'.ax=H.ax+1/\H'.bl=H.bl/\H'.b7=H.b7/\H'.bp=H.bp/\∀m,H'.mem.get m=if m=H.ax then some b else H.mem.get m:=by
 obtain⟨mem,ax,bl,b7,bp⟩:=H;simp only[ai.new] at h;cases ao:aQ.put b mem ax with
 |none=>rw[ao] at h;cases h
 |some m=>
  rw[ao] at h;simp only[ai.I2,ai.PE,b9,c'] at h;obtain⟨rfl,rfl⟩:=h;exact⟨rfl,rfl,rfl,rfl,rfl,aQ.get_put ao⟩
theorem ai.yO{H H':ai}{f:Nat}{l:List Nat}(h:H.oD f l=some H'):H'.ax=H.ax/\H'.mem=H.mem/\H'.b7=H.b7/\H'.bp=H.bp/\∀m,H'.bl.get m=if m=f then some l else H.bl.get m:=by
 obtain⟨mem,ax,bl,b7,bp⟩:=H;simp only[ai.oD] at h;cases ao:aQ.put l bl f with
 |none=>rw[ao] at h;cases h
 |some m=>rw[ao] at h;injection h with h;subst h;exact⟨rfl,rfl,rfl,rfl,aQ.get_put ao⟩
theorem ai.Ee{H H':ai}{f:Nat}(h:H.rS=some (f,H')):f=H.b7/\H'.ax=H.ax/\H'.mem=H.mem/\H'.b7=H.b7+1/\H'.bp=H.bp/\∀m,H'.bl.get m=if m=H.b7 then some [H.ax] else H.bl.get m:=by
 obtain⟨mem,ax,bl,b7,bp⟩:=H;simp only[ai.rS] at h;cases ao:aQ.put [ax] bl b7 with
 |none=>rw[ao] at h;cases h
 |some m=>
  rw[ao] at h;simp only[ai.I3,ai.PF,b9,c'] at h;obtain⟨rfl,rfl⟩:=h;exact⟨rfl,rfl,rfl,rfl,rfl,aQ.get_put ao⟩
def bz.put(μ:bz)(id:Nat)(L:Loc):bz:=fun x=>if x=id then some L else μ x
theorem bz.iw(μ:bz)(id:Nat)(L:Loc):μ.put id L id=some L:=by simp[bz.put]
theorem bz.qy(μ:bz){id x:Nat}(L:Loc)(h:x≠id):μ.put id L x=μ x:=by simp[bz.put,h]
section
variable {P:Program}{B:Nat->Prop}{w0 w:World}{μ:bz}{H H':ai}
theorem bL.PJ(h:bL P B w0 μ H w):μ H.ax=none:=by
 cases U:μ H.ax with
 |none=>rfl
 |some L=>have:=h.lt _ _ U;omega
theorem bL.rj(h:bL P B w0 μ H w)(L:Loc):Ext μ (μ.put H.ax L):=fun id bC U=>by
 by_cases e:id=H.ax
 ·subst e;rw[h.PJ] at U;cases U
 ·rw[bz.qy _ _ e];exact U
theorem bL.drew(h:bL P B w0 μ H w):bL P B w0 μ H w.drew:=
 ⟨h.below.drew,h.lB,h.e6,h.sep,h.lt,h.own,h.new,h.pT,h.iN,h.n4,h.jC,h.rk⟩
theorem bL.drawn(h:bL P B w0 μ H w)(n:Nat):bL P B w0 μ H {w with drawn:=n}:=
 ⟨⟨h.below.os,h.below.tape,h.below.output,h.below.size,h.below.block⟩,h.lB,h.e6,h.sep,h.lt,h.own,h.new,h.pT,h.iN,h.n4,h.jC,h.rk⟩
theorem xQ(w:World)(o:Obj)(r:Nat):(w.alloc o).heap[r]?=if r=w.heap.size then some o else w.heap[r]?:=by
 show(w.heap.push o)[r]?=_;rw[Array.getElem?_push]
theorem bL.Pn(h:bL P B w0 μ H w){b:eF}{o:Obj}{L:Loc}(aC:H'.ax=H.ax+1)(eo:H'.bp=H.bp)(cp:∀m,H'.mem.get m=if m=H.ax then some b else H.mem.get m)
 (HP:H.b7<=H'.b7)(l4:∀f l,H'.bl.get f=some l->H.bl.get f=some l\/(l=[H.ax]/\iJ (some b)=true))(XM:∀f l,f<H.b7->H.bl.get f=some l->H'.bl.get f=some l)
 (Ys:∀c e f z s,b=.row c e true f z s->f<H'.b7)(al:L.r=w.heap.size)(ah:ia P (μ.put H.ax L) L b o):
 bL P B w0 (μ.put H.ax L) H' (w.alloc o)/\Step μ (μ.put H.ax L) H H':=by
 have iP:=h.rj L;have dk:∀x bC,(μ.put H.ax L) x=some bC->x≠H.ax->μ x=some bC:=fun x bC a b=>by rwa [bz.qy _ _ b] at a
 have cD:∀x bC,μ x=some bC->bC.r<w.heap.size:=fun x bC U=>by
  obtain⟨b',o',_,ag,_⟩:=h.e6 x bC U;rcases hr bC.r w.heap.size with cS|cS
  ·exact cS
  ·rw[pC cS] at ag;cases ag
 refine⟨⟨h.below.alloc h.lB o,?_,?_,?_,?_,?_,?_,?_,?_,?_,?_,?_⟩,⟨iP,by omega,eo,?_⟩⟩
 ·intro k hk;have:=h.lB k hk;show k<(w.heap.push o).size;rw[KF];omega
 ·intro x bC U;by_cases cV:x=H.ax
  ·subst cV;rw[bz.iw] at U;injection U with U;subst U
   exact⟨b,o,by rw[cp];simp,by rw[xQ,al];simp,ah⟩
  ·have gn:=dk x bC U cV;obtain⟨b',o',aa,ab,aY⟩:=h.e6 x bC gn;exact⟨b',o',by rw[cp,a3 cV];exact aa,by rw[xQ,a3 (by have:=cD x bC gn;omega)];exact ab,aY.mono iP⟩
 ·intro x y gw gG dT U aF lE;by_cases cV:x=H.ax
  ·subst cV;rw[bz.iw] at U;injection U with U;subst U
   have:=cD y gG (dk y gG aF (Ne.symm dT));omega
  ·by_cases jh:y=H.ax
   ·subst jh;rw[bz.iw] at aF;injection aF with aF;subst aF
    have:=cD x gw (dk x gw U cV);omega
   ·rcases h.sep x y gw gG dT (dk x gw U cV) (dk y gG aF jh) lE with d|d|⟨f,l,⟨c,e,z,s,q⟩,⟨bw,bk,gi,df,c3⟩,aA,cE,eW⟩
    ·exact .inl (by rw[cp,a3 cV];exact d)
    ·exact .inr (.inl (by rw[cp,a3 jh];exact d))
    ·exact .inr (.inr ⟨f,l,⟨c,e,z,s,by rw[cp,a3 cV];exact q⟩,⟨bw,bk,gi,df,by rw[cp,a3 jh];exact c3⟩,XM f l (h.n4 _ _ _ _ _ _ q) aA,cE,eW⟩)
 ·intro x bC U;by_cases cV:x=H.ax
  ·omega
  ·have:=h.lt x bC (dk x bC U cV);omega
 ·intro x bC U aq;rw[eo] at aq;have cV:x≠H.ax:=by have:=h.iN;omega
  exact h.own x bC (dk x bC U cV) aq
 ·intro x bC U aq dz;rw[eo] at aq;by_cases cV:x=H.ax
  ·subst cV;rw[bz.iw] at U;injection U with U;subst U
   rw[al];exact fun q=>u3 _ (h.lB _ q)
  ·exact h.new x bC (dk x bC U cV) aq (by rw[cp,a3 cV] at dz;exact dz)
 ·intro g c e o f z s aq hm;rw[eo] at aq;have vR:g≠H.ax:=by have:=h.iN;omega
  rw[cp,a3 vR] at hm;obtain⟨bC,bP⟩:=h.pT g c e o f z s aq hm;exact⟨bC,iP _ _ bP⟩
 ·rw[eo,aC];have:=h.iN;omega
 ·intro x c e f z s hm;rw[cp] at hm;split at hm
  ·injection hm with hm;exact Ys c e f z s hm
  ·exact jL (h.n4 x c e f z s hm) HP
 ·intro f l x aA U;rcases l4 f l aA with aA|⟨rfl,ag⟩
  ·obtain⟨a,d⟩:=h.jC f l x aA U;have cV:x≠H.ax:=by omega
   refine⟨by omega,?_⟩;rw[cp,a3 cV];exact d
  ·simp at U;subst U;exact⟨by omega,.inl (by rw[cp];simpa using ag)⟩
 ·intro f l aA;rcases l4 f l aA with aA|⟨rfl,_⟩
  ·refine(h.rk f l aA).imp_of_mem ?_;intro x y U aF dT c e f1 z s bw bk cz gi df q c3;have gn:=(h.jC f l x aA U).1;have ui:=(h.jC f l y aA aF).1;rw[cp,a3 (by omega)] at q c3;exact dT c e _ z s bw bk cz gi df q c3
  ·exact SC _ _
 ·intro x U hv;have cV:x≠H.ax:=by omega
  exact⟨by rw[bz.qy _ _ cV];exact hv,fun _=>by rw[cp,a3 cV]⟩
theorem bL.made(h:bL P B w0 μ H w){id:Nat}{b:eF}{o:Obj}{L:Loc}(aw:H.new b=some (id,H'))(ag:iJ (some b)=false)(al:L.r=w.heap.size)(ah:ia P (μ.put H.ax L) L b o):
 bL P B w0 (μ.put H.ax L) H' (w.alloc o)/\Step μ (μ.put H.ax L) H H'/\id=H.ax:=by
 obtain⟨rfl,aC,aZ,cJ,eo,cp⟩:=ai.mb aw;obtain⟨a,b⟩:=h.Pn (H':=H') aC eo cp (by omega) (fun f l x=>.inl (by rw[<-aZ];exact x)) (fun f l _ x=>by rw[aZ];exact x) (fun c e f z s q=>by rw[q] at ag;simp[iJ] at ag) al ah;exact⟨a,b,rfl⟩
theorem bL.IR(h:bL P B w0 μ H w){id:Nat}{cells:List Value}{elem:TypeId}{sh:Bool}{o:Obj}{L:Loc}(aw:H.lM cells elem sh=some (id,H'))(al:L.r=w.heap.size)
 (ah:∀f,ia P (μ.put H.ax L) L (.row cells elem true f 0 sh) o):
 bL P B w0 (μ.put H.ax L) H' (w.alloc o)/\Step μ (μ.put H.ax L) H H'/\id=H.ax:=by
 unfold ai.lM at aw;cases az:H.rS with
 |none=>rw[az] at aw;cases aw
 |some p=>
  obtain⟨f,H1⟩:=p;rw[az] at aw;obtain⟨rfl,bx,bX,cy,c0,cr⟩:=ai.Ee az;obtain⟨rfl,aC,aZ,cJ,eo,cp⟩:=ai.mb aw
  obtain⟨x,y⟩:=h.Pn (H':=H') (b:=.row cells elem true H.b7 0 sh) (o:=o) (L:=L) (by omega) (by rw[eo,c0]) (fun m=>by rw[cp,bx,bX]) (by omega)
   (fun f l aA=>by
    rw[aZ,cr] at aA;split at aA
    ·injection aA with aA;exact .inr ⟨aA.symm,rfl⟩
    ·exact .inl aA)
   (fun f l az aA=>by rw[aZ,cr,a3 (by omega)];exact aA)
   (fun c e f z s q=>by injection q with _ _ _ q;omega) al (ah _)
  exact⟨x,y,bx⟩
theorem bL.write(h:bL P B w0 μ H w){id:Nat}{L:Loc}{b':eF}{o':Obj}(bP:μ id=some L)(aq:H.bp<=id)(rC:H.mem.get id≠some .dead)
 (aC:H'.ax=H.ax)(aZ:H'.b7=H.b7)(cJ:H'.bp=H.bp)(xk:H'.mem.get id=some b')
 (bH:∀x,x≠id->H'.mem.get x=H.mem.get x\/(H'.mem.get x=some .dead/\(iJ (H.mem.get x)=true\/H.mem.get x=some .dead)))
 (Vj:∀x bC,x≠id->μ x=some bC->bC.r=L.r->H'.mem.get x=some .dead)
 (Gs:∀f l,H.bl.get f=some l->H'.bl.get f=some l\/∀x y,x∈l->y∈l->x≠y->H'.mem.get x=some .dead\/H'.mem.get y=some .dead)
 (zQ:∀f l,H'.bl.get f=some l->H.bl.get f=some l\/(l=[id]/\iJ (some b')=true))
 (dC:∀c e f z s,b'=.row c e true f z s->∃bw bk gi df,H.mem.get id=some (.row bw bk true f gi df)/\bw.length=c.length)
 (Od:iJ (H.mem.get id)=true->iJ (some b')=true)(ah:ia P μ L b' o'):
 bL P B w0 μ H' {w with heap:=w.heap.setIfInBounds L.r o'}/\Step μ μ H H':=by
 have oa:∀x,H.mem.get x=some .dead->H'.mem.get x=some .dead:=fun x U=>by
  have dP:x≠id:=fun e=>rC (e▸U);rcases bH x dP with q|q
  ·rw[q,U]
  ·exact q.1
 have l4:∀x f,s3 H x f->H'.mem.get x=some .dead\/s3 H' x f:=fun x f U=>by
  obtain⟨c,e,z,s,q⟩:=U;by_cases h5:x=id
  ·subst h5;right
   have ag:=Od (by rw[q];rfl);cases b' with
   |row bn pP nH f1 dE s1=>
    simp only[iJ] at ag;subst ag;obtain⟨bw,bk,gi,df,c3,_⟩:=dC bn pP f1 dE s1 rfl;rw[q] at c3;injection c3 with c3;injection c3 with _ _ _ acn;subst acn
    exact⟨bn,pP,dE,s1,xk⟩
   |_=>simp[iJ] at ag
  ·rcases bH x h5 with p|p
   ·right;exact⟨c,e,z,s,by rw[p];exact q⟩
   ·left;exact p.1
 have Hb:L.r<w.heap.size:=by
  obtain⟨b,o,_,ag,_⟩:=h.e6 id L bP;rcases hr L.r w.heap.size with cS|cS
  ·exact cS
  ·rw[pC cS] at ag;cases ag
 have C5:=h.new id L bP aq rC;have kP:∀r,({w with heap:=w.heap.setIfInBounds L.r o'}:World).heap[r]?=if r=L.r then some o' else w.heap[r]?:=fun r=>by
  show(w.heap.setIfInBounds L.r o')[r]?=_;rw[uS];by_cases al:L.r=r
  ·subst al;simp[Hb]
  ·rw[a3 al,a3 (Ne.symm al)]
 have kV:∀x c e f z s,H'.mem.get x=some (.row c e true f z s)->∃bw bk gi df,H.mem.get x=some (.row bw bk true f gi df)/\bw.length=c.length:=fun x c e f z s hm=>by
  by_cases h5:x=id
  ·subst h5;rw[xk] at hm;injection hm with hm
   exact dC c e f z s hm
  ·rcases bH x h5 with q|q
   ·rw[q] at hm;exact⟨c,e,z,s,hm,rfl⟩
   ·rw[q.1] at hm;cases hm
 refine⟨⟨⟨h.below.os,h.below.tape,h.below.output,?_,?_⟩,?_,?_,?_,?_,?_,?_,?_,?_,?_,?_,?_⟩,⟨Ext.refl _,by omega,cJ,?_⟩⟩
 ·show w0.heap.size<=(w.heap.setIfInBounds L.r o').size;rw[B8];exact h.below.size
 ·intro k hk;rw[kP,a3 (fun e=>by subst e;exact C5 hk)];exact h.below.block k hk
 ·intro k hk;show k<(w.heap.setIfInBounds L.r o').size;rw[B8];exact h.lB k hk
 ·intro x bC U;by_cases h5:x=id
  ·subst h5;rw[bP] at U;injection U with U;subst U
   exact⟨b',o',xk,by rw[kP];simp,ah⟩
  ·by_cases al:bC.r=L.r
   ·exact⟨.dead,o',Vj x bC h5 U al,by rw[kP,bg al],by simp[ia]⟩
   ·obtain⟨b,o,dm,hA,lm⟩:=h.e6 x bC U;rcases bH x h5 with q|q
    ·exact⟨b,o,by rw[q];exact dm,by rw[kP,a3 al];exact hA,lm⟩
    ·exact⟨.dead,o,q.1,by rw[kP,a3 al];exact hA,by cases o<;>simp[ia]⟩
 ·intro x y gw gG dT U aF lE;rcases h.sep x y gw gG dT U aF lE with d|d|⟨f,l,q,c3,aA,cE,eW⟩
  ·exact .inl (oa x d)
  ·exact .inr (.inl (oa y d))
  ·rcases l4 x f q with d|q
   ·exact .inl d
   ·rcases l4 y f c3 with d|c3
    ·exact .inr (.inl d)
    ·rcases Gs f l aA with db|lg
     ·exact .inr (.inr ⟨f,l,q,c3,db,cE,eW⟩)
     ·rcases lg x y cE eW dT with d|d
      ·exact .inl d
      ·exact .inr (.inl d)
 ·intro x bC U;rw[aC];exact h.lt x bC U
 ·intro x bC U gn;rw[cJ] at gn;exact h.own x bC U gn
 ·intro x bC U gn dz;rw[cJ] at gn;exact h.new x bC U gn fun q=>dz (oa x q)
 ·intro g c e o f z s sK hm;rw[cJ] at sK;have dP:g≠id:=by omega
  rcases bH g dP with q|q
  ·rw[q] at hm;exact h.pT g c e o f z s sK hm
  ·rw[q.1] at hm;cases hm
 ·rw[cJ,aC];exact h.iN
 ·intro x c e f z s hm;rw[aZ];by_cases h5:x=id
  ·subst h5;rw[xk] at hm;injection hm with hm
   obtain⟨bw,bk,gi,df,c3,_⟩:=dC c e f z s hm;exact h.n4 _ _ _ _ _ _ c3
  ·rcases bH x h5 with q|q
   ·rw[q] at hm;exact h.n4 x c e f z s hm
   ·rw[q.1] at hm;cases hm
 ·intro f l x aA U;rw[aC];rcases zQ f l aA with aA|⟨rfl,ag⟩
  ·obtain⟨a,d⟩:=h.jC f l x aA U;refine⟨a,?_⟩;rcases d with d|d
   ·by_cases h5:x=id
    ·subst h5;left;rw[xk];exact Od d
    ·rcases bH x h5 with q|q
     ·left;rw[q];exact d
     ·right;exact q.1
   ·right;exact oa x d
  ·simp at U;subst U;exact⟨h.lt _ _ bP,.inl (by rw[xk];exact ag)⟩
 ·intro f l aA;rcases zQ f l aA with aA|⟨rfl,_⟩
  ·refine(h.rk f l aA).imp ?_;intro x y dT c e f z s bw bk cz gi df q c3;obtain⟨bn,pP,dE,s1,aR,aN⟩:=kV x c e f z s q;obtain⟨bQ,agb,ej,s2,bG,dd⟩:=kV y bw bk cz gi df c3;have:=dT _ _ _ _ _ _ _ _ _ _ aR bG;omega
  ·exact SC _ _
 ·intro x U hv;refine⟨hv,fun ag=>?_⟩;have h5:x≠id:=fun e=>by subst e;rw[bP] at hv;cases hv
  rcases bH x h5 with q|q
  ·exact q
  ·rcases q.2 with r|r
   ·rw[ag] at r;cases r
   ·rw[q.1,r]
theorem bL.kill(h:bL P B w0 μ H w)(aC:H'.ax=H.ax)(aZ:H'.b7=H.b7)(cJ:H'.bp=H.bp)
 (bH:∀x,H'.mem.get x=H.mem.get x\/(H'.mem.get x=some .dead/\(iJ (H.mem.get x)=true\/H.mem.get x=some .dead)))
 (Gs:∀f l,H.bl.get f=some l->∃l',H'.bl.get f=some l'/\l'.Sublist l/\∀x,x∈l->x∉l'->H'.mem.get x=some .dead)
 (zQ:∀f l',H'.bl.get f=some l'->∃l,H.bl.get f=some l/\l'.Sublist l):
 bL P B w0 μ H' w/\Step μ μ H H':=by
 have oa:∀x,H.mem.get x=some .dead->H'.mem.get x=some .dead:=fun x U=>by
  rcases bH x with q|q
  ·rw[q,U]
  ·exact q.1
 have l4:∀x f,s3 H x f->H'.mem.get x=some .dead\/s3 H' x f:=fun x f U=>by
  obtain⟨c,e,z,s,q⟩:=U;rcases bH x with p|p
  ·right;exact⟨c,e,z,s,by rw[p];exact q⟩
  ·left;exact p.1
 have kV:∀x c e f z s,H'.mem.get x=some (.row c e true f z s)->H.mem.get x=some (.row c e true f z s):=fun x c e f z s hm=>by
  rcases bH x with q|q
  ·rw[q] at hm;exact hm
  ·rw[q.1] at hm;cases hm
 refine⟨⟨h.below,h.lB,?_,?_,?_,?_,?_,?_,?_,?_,?_,?_⟩,⟨Ext.refl _,by omega,cJ,?_⟩⟩
 ·intro x bC U;obtain⟨b,o,dm,hA,lm⟩:=h.e6 x bC U;rcases bH x with q|q
  ·exact⟨b,o,by rw[q];exact dm,hA,lm⟩
  ·exact⟨.dead,o,q.1,hA,by cases o<;>simp[ia]⟩
 ·intro x y gw gG dT U aF lE;rcases h.sep x y gw gG dT U aF lE with d|d|⟨f,l,q,c3,aA,cE,eW⟩
  ·exact .inl (oa x d)
  ·exact .inr (.inl (oa y d))
  ·rcases l4 x f q with d|q
   ·exact .inl d
   ·rcases l4 y f c3 with d|c3
    ·exact .inr (.inl d)
    ·obtain⟨l',aa,_,aY⟩:=Gs f l aA;by_cases kW:x∈l'
     ·by_cases AX:y∈l'
      ·exact .inr (.inr ⟨f,l',q,c3,aa,kW,AX⟩)
      ·exact .inr (.inl (aY y eW AX))
     ·exact .inl (aY x cE kW)
 ·intro x bC U;rw[aC];exact h.lt x bC U
 ·intro x bC U gn;rw[cJ] at gn;exact h.own x bC U gn
 ·intro x bC U gn dz;rw[cJ] at gn;exact h.new x bC U gn fun q=>dz (oa x q)
 ·intro g c e o f z s sK hm;rw[cJ] at sK;rcases bH g with q|q
  ·rw[q] at hm;exact h.pT g c e o f z s sK hm
  ·rw[q.1] at hm;cases hm
 ·rw[cJ,aC];exact h.iN
 ·intro x c e f z s hm;rw[aZ];exact h.n4 x c e f z s (kV x c e f z s hm)
 ·intro f l x aA U;rw[aC];obtain⟨l0,aa,ab⟩:=zQ f l aA;obtain⟨a,d⟩:=h.jC f l0 x aa (ab.mem U);refine⟨a,?_⟩;rcases bH x with q|q
  ·rw[q];exact d
  ·right;exact q.1
 ·intro f l aA;obtain⟨l0,aa,ab⟩:=zQ f l aA;refine((h.rk f l0 aa).sublist ab).imp ?_;intro x y dT c e f z s bw bk cz gi df q c3;exact dT _ _ _ _ _ _ _ _ _ _ (kV _ _ _ _ _ _ q) (kV _ _ _ _ _ _ c3)
 ·intro x U hv;refine⟨hv,fun ag=>?_⟩;rcases bH x with q|q
  ·exact q
  ·rcases q.2 with r|r
   ·rw[ag] at r;cases r
   ·rw[q.1,r]
theorem Q4(h:bL P B w0 μ H w){f:Nat}{l l0:List Nat}{cells:List Value}{elem:TypeId}{dS:Nat}{sh:Bool}(aA:H.bl.get f=some l0)(om:l.Sublist l0)
 (cp:∀m,H'.mem.get m=if m=H.ax then some (.row cells elem true f dS sh) else H.mem.get m)
 (h0:∀m,H'.bl.get m=if m=f then some (H.ax::l) else H.bl.get m)(sV:∀y∈l,∀c e f z s,H.mem.get y=some (.row c e true f z s)->c.length<=cells.length):
 ∀cz l',H'.bl.get cz=some l'->FB H' l':=by
 have PU:∀cz l',H.bl.get cz=some l'->FB H' l':=fun cz l' db=>by
  refine(h.rk cz l' db).imp_of_mem ?_;intro x y U aF dT c e f1 z s bw bk f2 gi df q c3;have gn:=(h.jC cz l' x db U).1;have ui:=(h.jC cz l' y db aF).1;rw[cp,a3 (by omega)] at q c3;exact dT _ _ _ _ _ _ _ _ _ _ q c3
 intro cz l' db;rw[h0] at db;split at db
 ·injection db with db;subst db
  refine List.pairwise_cons.2 ⟨fun y aF c e f1 z s bw bk f2 gi df q c3=>?_,(PU f l0 aA).sublist om⟩;have ui:=(h.jC f l0 y aA (om.mem aF)).1;rw[cp,bg rfl] at q;rw[cp,a3 (by omega)] at c3;injection q with q;injection q with q;subst q
  exact sV y aF _ _ _ _ _ c3
 ·exact PU cz l' db
theorem bL.Qj(h:bL P B w0 μ H w){f:Nat}{l l0:List Nat}{cells:List Value}{elem:TypeId}{dS:Nat}{sh:Bool}{o:Obj}{L:Loc}(aA:H.bl.get f=some l0)(om:l.Sublist l0)(AK:∀x,x∈l0->x∉l->H.mem.get x=some .dead)(az:f<H.b7)
 (aC:H'.ax=H.ax+1)(aZ:H'.b7=H.b7)(eo:H'.bp=H.bp)(cp:∀m,H'.mem.get m=if m=H.ax then some (.row cells elem true f dS sh) else H.mem.get m)
 (h0:∀m,H'.bl.get m=if m=f then some (H.ax::l) else H.bl.get m)(sV:∀y∈l,∀c e f z s,H.mem.get y=some (.row c e true f z s)->c.length<=cells.length)
 (al:L.r=w.heap.size)(ah:ia P (μ.put H.ax L) L (.row cells elem true f dS sh) o):
 bL P B w0 (μ.put H.ax L) H' (w.alloc o)/\Step μ (μ.put H.ax L) H H':=by
 have iP:=h.rj L;have dk:∀x bC,(μ.put H.ax L) x=some bC->x≠H.ax->μ x=some bC:=fun x bC a b=>by rwa [bz.qy _ _ b] at a
 have cD:∀x bC,μ x=some bC->bC.r<w.heap.size:=fun x bC U=>by
  obtain⟨b',o',_,ag,_⟩:=h.e6 x bC U;rcases hr bC.r w.heap.size with cS|cS
  ·exact cS
  ·rw[pC cS] at ag;cases ag
 refine⟨⟨h.below.alloc h.lB o,?_,?_,?_,?_,?_,?_,?_,?_,?_,?_,?_⟩,⟨iP,by omega,eo,?_⟩⟩
 ·intro k hk;have:=h.lB k hk;show k<(w.heap.push o).size;rw[KF];omega
 ·intro x bC U;by_cases cV:x=H.ax
  ·subst cV;rw[bz.iw] at U;injection U with U;subst U
   exact⟨_,o,by rw[cp];simp,by rw[xQ,al];simp,ah⟩
  ·have gn:=dk x bC U cV;obtain⟨b',o',aa,ab,aY⟩:=h.e6 x bC gn;exact⟨b',o',by rw[cp,a3 cV];exact aa,by rw[xQ,a3 (by have:=cD x bC gn;omega)];exact ab,aY.mono iP⟩
 ·intro x y gw gG dT U aF lE;by_cases cV:x=H.ax
  ·subst cV;rw[bz.iw] at U;injection U with U;subst U
   have:=cD y gG (dk y gG aF (Ne.symm dT));omega
  ·by_cases jh:y=H.ax
   ·subst jh;rw[bz.iw] at aF;injection aF with aF;subst aF
    have:=cD x gw (dk x gw U cV);omega
   ·rcases h.sep x y gw gG dT (dk x gw U cV) (dk y gG aF jh) lE with d|d|⟨cz,l',⟨c,e,z,s,q⟩,⟨bw,bk,gi,df,c3⟩,db,cE,eW⟩
    ·exact .inl (by rw[cp,a3 cV];exact d)
    ·exact .inr (.inl (by rw[cp,a3 jh];exact d))
    ·by_cases nv:cz=f
     ·subst nv;rw[aA] at db;injection db with db;subst db
      by_cases fD:x∈l
      ·by_cases h6:y∈l
       ·exact .inr (.inr ⟨cz,H.ax::l,⟨c,e,z,s,by rw[cp,a3 cV];exact q⟩,⟨bw,bk,gi,df,by rw[cp,a3 jh];exact c3⟩,by rw[h0];simp,by simp[fD],by simp[h6]⟩)
       ·exact .inr (.inl (by rw[cp,a3 jh];exact AK y eW h6))
      ·exact .inl (by rw[cp,a3 cV];exact AK x cE fD)
     ·exact .inr (.inr ⟨cz,l',⟨c,e,z,s,by rw[cp,a3 cV];exact q⟩,⟨bw,bk,gi,df,by rw[cp,a3 jh];exact c3⟩,by rw[h0,a3 nv];exact db,cE,eW⟩)
 ·intro x bC U;by_cases cV:x=H.ax
  ·omega
  ·have:=h.lt x bC (dk x bC U cV);omega
 ·intro x bC U aq;rw[eo] at aq;have cV:x≠H.ax:=by have:=h.iN;omega
  exact h.own x bC (dk x bC U cV) aq
 ·intro x bC U aq dz;rw[eo] at aq;by_cases cV:x=H.ax
  ·subst cV;rw[bz.iw] at U;injection U with U;subst U
   rw[al];exact fun q=>u3 _ (h.lB _ q)
  ·exact h.new x bC (dk x bC U cV) aq (by rw[cp,a3 cV] at dz;exact dz)
 ·intro g c e o f z s aq hm;rw[eo] at aq;have vR:g≠H.ax:=by have:=h.iN;omega
  rw[cp,a3 vR] at hm;obtain⟨bC,bP⟩:=h.pT g c e o f z s aq hm;exact⟨bC,iP _ _ bP⟩
 ·rw[eo,aC];have:=h.iN;omega
 ·intro x c e cz z s hm;rw[cp] at hm;split at hm
  ·injection hm with hm;injection hm with _ _ _ hm;omega
  ·have:=h.n4 x c e cz z s hm;omega
 ·intro cz l' x db U;rw[h0] at db;split at db
  ·injection db with db;subst db
   simp at U;rcases U with U|U
   ·subst U;exact⟨by omega,.inl (by rw[cp];simp[iJ])⟩
   ·obtain⟨a,d⟩:=h.jC f l0 x aA (om.mem U);exact⟨by omega,by rw[cp,a3 (by omega)];exact d⟩
  ·obtain⟨a,d⟩:=h.jC cz l' x db U;exact⟨by omega,by rw[cp,a3 (by omega)];exact d⟩
 ·exact Q4 h aA om cp h0 sV
 ·intro x U hv;have cV:x≠H.ax:=by omega
  exact⟨by rw[bz.qy _ _ cV];exact hv,fun _=>by rw[cp,a3 cV]⟩
theorem bL.ab'(h:bL P B w0 μ H w){f id:Nat}{l l0:List Nat}{cells:List Value}{elem:TypeId}{dS:Nat}{sh:Bool}{o o':Obj}{L:Loc}(aA:H.bl.get f=some l0)(om:l.Sublist l0)(AK:∀x,x∈l0->x∉l->H.mem.get x=some .dead)(az:f<H.b7)(bP:μ id=some L)(aq:H.bp<=id)(C5:¬B L.r)
 (aC:H'.ax=H.ax+1)(aZ:H'.b7=H.b7)(eo:H'.bp=H.bp)(cp:∀m,H'.mem.get m=if m=H.ax then some (.row cells elem true f dS sh) else H.mem.get m)
 (h0:∀m,H'.bl.get m=if m=f then some (H.ax::l) else H.bl.get m)(sV:∀y∈l,∀c e f z s,H.mem.get y=some (.row c e true f z s)->c.length<=cells.length)
 (sP:∀y bC,μ y=some bC->bC.r=L.r->H.mem.get y=some .dead\/(s3 H y f/\y∈l/\∃b,H.mem.get y=some b/\ia P μ bC b o'))
 (ah:ia P μ L (.row cells elem true f dS sh) o'):
 bL P B w0 (μ.put H.ax L) H' {w with heap:=w.heap.setIfInBounds L.r o'}/\Step μ (μ.put H.ax L) H H':=by
 have _:=o;have iP:=h.rj L;have dk:∀x bC,(μ.put H.ax L) x=some bC->x≠H.ax->μ x=some bC:=fun x bC a b=>by rwa [bz.qy _ _ b] at a
 have Hb:L.r<w.heap.size:=by
  obtain⟨b,o,_,ag,_⟩:=h.e6 id L bP;rcases hr L.r w.heap.size with cS|cS
  ·exact cS
  ·rw[pC cS] at ag;cases ag
 have kP:∀r,({w with heap:=w.heap.setIfInBounds L.r o'}:World).heap[r]?=if r=L.r then some o' else w.heap[r]?:=fun r=>by
  show(w.heap.setIfInBounds L.r o')[r]?=_;rw[uS];by_cases al:L.r=r
  ·subst al;simp[Hb]
  ·rw[a3 al,a3 (Ne.symm al)]
 have lj:s3 H' H.ax f:=⟨cells,elem,dS,sh,by rw[cp];simp⟩;have XQ:H'.bl.get f=some (H.ax::l):=by rw[h0];simp
 have side:∀y gG,y≠H.ax->μ y=some gG->gG.r=L.r->KC H' H.ax y:=fun y gG jh aF lE=>by
  rcases sP y gG aF lE with d|⟨⟨c,e,z,s,q⟩,m,_⟩
  ·exact .inr (.inl (by rw[cp,a3 jh];exact d))
  ·exact .inr (.inr ⟨f,_,lj,⟨c,e,z,s,by rw[cp,a3 jh];exact q⟩,XQ,by simp,by simp[m]⟩)
 refine⟨⟨⟨h.below.os,h.below.tape,h.below.output,?_,?_⟩,?_,?_,?_,?_,?_,?_,?_,?_,?_,?_,?_⟩,⟨iP,by omega,eo,?_⟩⟩
 ·show w0.heap.size<=(w.heap.setIfInBounds L.r o').size;rw[B8];exact h.below.size
 ·intro k hk;rw[kP,a3 (fun e=>by subst e;exact C5 hk)];exact h.below.block k hk
 ·intro k hk;show k<(w.heap.setIfInBounds L.r o').size;rw[B8];exact h.lB k hk
 ·intro x bC U;by_cases cV:x=H.ax
  ·subst cV;rw[bz.iw] at U;injection U with U;subst U
   exact⟨_,o',by rw[cp];simp,by rw[kP];simp,ah.mono iP⟩
  ·have gn:=dk x bC U cV;by_cases al:bC.r=L.r
   ·rcases sP x bC gn al with d|⟨_,_,b,aR,aN⟩
    ·exact⟨.dead,o',by rw[cp,a3 cV];exact d,by rw[kP,bg al],by cases o'<;>simp[ia]⟩
    ·exact⟨b,o',by rw[cp,a3 cV];exact aR,by rw[kP,bg al],aN.mono iP⟩
   ·obtain⟨b',nH,aa,ab,aY⟩:=h.e6 x bC gn;exact⟨b',nH,by rw[cp,a3 cV];exact aa,by rw[kP,a3 al];exact ab,aY.mono iP⟩
 ·intro x y gw gG dT U aF lE;by_cases cV:x=H.ax
  ·subst cV;rw[bz.iw] at U;injection U with U;subst U
   exact side y gG (Ne.symm dT) (dk y gG aF (Ne.symm dT)) lE.symm
  ·by_cases jh:y=H.ax
   ·subst jh;rw[bz.iw] at aF;injection aF with aF;subst aF
    rcases side x gw cV (dk x gw U cV) lE with d|d|⟨cz,l',q,c3,db,cE,eW⟩
    ·exact .inr (.inl d)
    ·exact .inl d
    ·exact .inr (.inr ⟨cz,l',c3,q,db,eW,cE⟩)
   ·rcases h.sep x y gw gG dT (dk x gw U cV) (dk y gG aF jh) lE with d|d|⟨cz,l',⟨c,e,z,s,q⟩,⟨bw,bk,gi,df,c3⟩,db,cE,eW⟩
    ·exact .inl (by rw[cp,a3 cV];exact d)
    ·exact .inr (.inl (by rw[cp,a3 jh];exact d))
    ·by_cases nv:cz=f
     ·subst nv;rw[aA] at db;injection db with db;subst db
      by_cases fD:x∈l
      ·by_cases h6:y∈l
       ·exact .inr (.inr ⟨cz,H.ax::l,⟨c,e,z,s,by rw[cp,a3 cV];exact q⟩,⟨bw,bk,gi,df,by rw[cp,a3 jh];exact c3⟩,by rw[h0];simp,by simp[fD],by simp[h6]⟩)
       ·exact .inr (.inl (by rw[cp,a3 jh];exact AK y eW h6))
      ·exact .inl (by rw[cp,a3 cV];exact AK x cE fD)
     ·exact .inr (.inr ⟨cz,l',⟨c,e,z,s,by rw[cp,a3 cV];exact q⟩,⟨bw,bk,gi,df,by rw[cp,a3 jh];exact c3⟩,by rw[h0,a3 nv];exact db,cE,eW⟩)
 ·intro x bC U;by_cases cV:x=H.ax
  ·omega
  ·have:=h.lt x bC (dk x bC U cV);omega
 ·intro x bC U aq;rw[eo] at aq;have cV:x≠H.ax:=by have:=h.iN;omega
  exact h.own x bC (dk x bC U cV) aq
 ·intro x bC U aq dz;rw[eo] at aq;by_cases cV:x=H.ax
  ·subst cV;rw[bz.iw] at U;injection U with U;subst U
   exact C5
  ·exact h.new x bC (dk x bC U cV) aq (by rw[cp,a3 cV] at dz;exact dz)
 ·intro g c e o f z s aq hm;rw[eo] at aq;have vR:g≠H.ax:=by have:=h.iN;omega
  rw[cp,a3 vR] at hm;obtain⟨bC,bP⟩:=h.pT g c e o f z s aq hm;exact⟨bC,iP _ _ bP⟩
 ·rw[eo,aC];have:=h.iN;omega
 ·intro x c e cz z s hm;rw[cp] at hm;split at hm
  ·injection hm with hm;injection hm with _ _ _ hm;omega
  ·have:=h.n4 x c e cz z s hm;omega
 ·intro cz l' x db U;rw[h0] at db;split at db
  ·injection db with db;subst db
   simp at U;rcases U with U|U
   ·subst U;exact⟨by omega,.inl (by rw[cp];simp[iJ])⟩
   ·obtain⟨a,d⟩:=h.jC f l0 x aA (om.mem U);exact⟨by omega,by rw[cp,a3 (by omega)];exact d⟩
  ·obtain⟨a,d⟩:=h.jC cz l' x db U;exact⟨by omega,by rw[cp,a3 (by omega)];exact d⟩
 ·exact Q4 h aA om cp h0 sV
 ·intro x U hv;have cV:x≠H.ax:=by omega
  exact⟨by rw[bz.qy _ _ cV];exact hv,fun _=>by rw[cp,a3 cV]⟩
theorem D1{mU:Nat}:∀{l:List Nat} {H H':ai},pi H mU l=some H'->H'.ax=H.ax/\H'.bl=H.bl/\H'.b7=H.b7/\H'.bp=H.bp/\
 (∀x,x∈l->x≠mU->H'.mem.get x=some .dead)/\(∀x,x∉l\/x=mU->H'.mem.get x=H.mem.get x):=by
 intro l;induction l with
 |nil=>intro H H' h;simp[pi] at h;subst h;exact⟨rfl,rfl,rfl,rfl,fun x U=>by simp at U,fun x _=>rfl⟩
 |cons y l aP=>
  intro H H' h;simp only[pi] at h;cases aF:Nat.beq y mU with
  |true=>
   rw[aF] at h;have AY:=dX aF;obtain⟨bx,bX,cy,c0,cr,dY⟩:=aP (by simpa using h);refine⟨bx,bX,cy,c0,fun x U dP=>?_,fun x U=>?_⟩
   ·simp at U;rcases U with rfl|U
    ·exact absurd AY dP
    ·exact cr x U dP
   ·refine dY x ?_;rcases U with U|U
    ·left;simp at U;exact U.2
    ·right;exact U
  |false=>
   rw[aF] at h;have AY:y≠mU:=fun e=>by subst e;simp at aF
   simp only[da] at h;cases hu:H.upd y .dead with
   |none=>rw[hu] at h;cases h
   |some H1=>
    rw[hu] at h;obtain⟨br,bN,cW,dj,eU⟩:=ai.nK hu;obtain⟨bx,bX,cy,c0,cr,dY⟩:=aP h;refine⟨by omega,by rw[bX,bN],by omega,by omega,fun x U dP=>?_,fun x U=>?_⟩
    ·by_cases kW:x∈l
     ·exact cr x kW dP
     ·have dT:x=y:=by simp at U;rcases U with q|q;exact q;exact absurd q kW
      rw[dY x (.inl kW),eU,bg dT]
    ·have dT:x≠y:=by
      rcases U with q|q
      ·simp at q;exact q.1
      ·rw[q];exact Ne.symm AY
     have:x∉l\/x=mU:=by
      rcases U with q|q
      ·left;simp at q;exact q.2
      ·right;exact q
     rw[dY x this,eU,a3 dT]
theorem Ux{id:Nat}:∀{l l':List Nat} {H H':ai},tK H id l=some (l',H')->H'.ax=H.ax/\H'.bl=H.bl/\H'.b7=H.b7/\H'.bp=H.bp/\l'.Sublist l/\id∈l'/\H'.mem.get id=H.mem.get id/\
 (∀x,x∈l->x∉l'->H'.mem.get x=some .dead)/\(∀x,H'.mem.get x=H.mem.get x\/(H'.mem.get x=some .dead/\x∈l))/\(∃pre,l=pre++l'/\l'=id::l'.tail):=by
 intro l;induction l with
 |nil=>intro l' H H' h;simp[tK] at h
 |cons y l aP=>
  intro l' H H' h;simp only[tK] at h;cases aF:Nat.beq y id with
  |true=>
   rw[aF,b1] at h;simp only[b9,c'] at h;obtain⟨rfl,rfl⟩:=h;have:=dX aF;subst this;exact⟨rfl,rfl,rfl,rfl,cd _,by simp,rfl,fun x a b=>absurd a b,fun x=>.inl rfl,[],rfl,rfl⟩
  |false=>
   rw[aF,da] at h;have AY:y≠id:=fun e=>by subst e;simp at aF
   cases hu:H.upd y .dead with
   |none=>rw[hu] at h;cases h
   |some H1=>
    rw[hu] at h;obtain⟨br,bN,cW,dj,eU⟩:=ai.nK hu;obtain⟨bx,bX,cy,c0,cr,dY,fI,jw,k9,pre,sl,tB⟩:=aP h;refine⟨by omega,by rw[bX,bN],by omega,by omega,cr.cons _,dY,by rw[fI,eU,a3 (Ne.symm AY)],fun x U kW=>?_,fun x=>?_,y::pre,by rw[sl];rfl,tB⟩
    ·by_cases gn:x∈l
     ·exact jw x gn kW
     ·have dT:x=y:=by simp at U;rcases U with q|q;exact q;exact absurd q gn
      rcases k9 x with q|q
      ·rw[q,eU,bg dT]
      ·exact q.1
    ·rcases k9 x with q|q
     ·rw[eU] at q;split at q
      ·rename_i dT;exact .inr ⟨q,by simp[dT]⟩
      ·exact .inl q
     ·exact .inr ⟨q.1,by simp[q.2]⟩
end
end
end Go.Cre

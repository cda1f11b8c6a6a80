/- A part of the proof of ResumeBack. -/
import Derived.Test.YtiemfjdacfioeaaGreatDoorCac
import Derived.Laws.Append
import Derived.Laws.AppendOwn
set_option linter.unusedVariables false
set_option linter.unusedSimpArgs false
namespace Go.Cre
noncomputable section
open Go.RowKit
def NO(N eB:Nat)(sh:Bool)(f:Nat×Nat):Prop:=(∀off,off<N->f.1<=off->off<f.2->off<eB)/\(sh=false->f.1=f.2\/f.2<=eB)
inductive wj (μ:b1):List MapEntry->List MapEntry->Prop
 |nil:wj μ [] []
 |cons (e bG:MapEntry) (es mn:List MapEntry):bG.key=e.key->plain e.key=true->bF μ e.val bG.val->wj μ es mn->wj μ (e::es) (bG::mn)
def An(μ:b1)(es mn:List MapEntry):Prop:=∃l,l.Perm mn/\wj μ es l
theorem wj.mono{μ bI:b1}{l m:List MapEntry}(h:wj μ l m)(e:Ext μ bI):wj bI l m:=by
 induction h with
 |nil=>exact .nil
 |cons a b es mn aa ae aG _ aK=>exact .cons a b es mn aa ae (aG.mono e) aK
theorem wj.length{μ:b1}{l m:List MapEntry}(h:wj μ l m):l.length=m.length:=by
 induction h with
 |nil=>rfl
 |cons a b es mn aa ae aG _ aK=>simp[aK]
theorem An.length{μ:b1}{l m:List MapEntry}(h:An μ l m):l.length=m.length:=by
 obtain⟨k,aa,ae⟩:=h;rw[ae.length,aa.length_eq]
theorem An.nil(μ:b1):An μ [] []:=⟨[],.refl _,.nil⟩
def lu(μ:b1)(T:bg Value)(n:Nat)(tmps:Array Value):Prop:=n<=tmps.size/\∀t v,T.get t=some v->bF μ v (tmps.getD t undef)
def kg(P:Program)(μ:b1)(L:Loc):ff->Obj->Prop
 |.row cells elem opn _ eB sh,.cells c e f=>e=elem/\c.size=L.N/\P.cellsOf elem=L.sz/\cells.length<=L.N/\(opn=false->cells.length=L.N)/\
  (∀(i:Nat) v v',cells[i]?=some v->c[i]?=some v'->bF μ v v')/\NO L.N eB sh f
 |.map es _,.map mn _=>An μ es mn.toList
 |.loop l,.loop l'=>l'.state=l.state/\l'.pending=l.pending/\l'.params.toList=l.params/\l'.assign=l.assign/\l'.body=l.body/\lu μ l.T l.n l'.tmps/\∃bQ,μ l.iT=some bQ/\l'.defers=bQ.r
 |.iT ds,.deferred e5=>e5=ds/\(ds=some []\/ds=none)
 |.dead,_=>True
 |_,_=>False
theorem lu.mono{μ bI:b1}{T:bg Value}{n:Nat}{tmps:Array Value}(h:lu μ T n tmps)(e:Ext μ bI):lu bI T n tmps:=⟨h.1,fun t v x=>(h.2 t v x).mono e⟩
theorem kg.mono{P:Program}{μ bI:b1}{L:Loc}{b:ff}{o:Obj}(h:kg P μ L b o)(e:Ext μ bI):kg P bI L b o:=by
 cases b with
 |row cells elem opn bM eB sh=>
  cases o with
  |cells c bG f=>obtain⟨aa,ae,aG,br,eu,gK,ks⟩:=h;exact⟨aa,ae,aG,br,eu,fun i v v' a b=>(gK i v v' a b).mono e,ks⟩
  |_=>exact h
 |map es clock=>
  cases o with
  |map mn JW=>obtain⟨l,aa,ae⟩:=h;exact⟨l,aa,ae.mono e⟩
  |_=>exact h
 |loop l=>
  cases o with
  |loop l'=>obtain⟨aa,ae,aG,br,eu,gK,bQ,ks,A3⟩:=h;exact⟨aa,ae,aG,br,eu,gK.mono e,bQ,e _ _ ks,A3⟩
  |_=>exact h
 |iT ds=>
  cases o with
  |deferred e5=>exact h
  |_=>exact h
 |dead=>cases o<;>trivial
def ka:Option ff->Bool
 |some (.row _ _ opn _ _ _)=>opn
 |_=>false
def xM(H:aB)(id f:Nat):Prop:=∃c e z s,H.mem.get id=some (.row c e true f z s)
def RQ(H:aB)(id l4:Nat):Prop:=
 H.mem.get id=some .dead\/H.mem.get l4=some .dead\/∃f l,xM H id f/\xM H l4 f/\H.bM.get f=some l/\id∈l/\l4∈l
def MA(H:aB)(l:List Nat):Prop:=
 l.Pairwise fun x y=>∀c e f z s ch bG cW hQ c3,H.mem.get x=some (.row c e true f z s)->H.mem.get y=some (.row ch bG true cW hQ c3)->ch.length<=c.length
structure Kept (B:Nat->Prop) (w bu:World):Prop where
 os:bu.os=w.os
 tape:bu.tape=w.tape
 output:bu.output=w.output
 size:w.heap.size<=bu.heap.size
 block:∀k,B k->bu.heap[k]?=w.heap[k]?
theorem Kept.refl(B:Nat->Prop)(w:World):Kept B w w:=⟨rfl,rfl,rfl,cZ _,fun _ _=>rfl⟩
theorem Kept.trans{B:Nat->Prop}{a b c:World}(h:Kept B a b)(k:Kept B b c):Kept B a c:=
 ⟨k.os.trans h.os,k.tape.trans h.tape,k.output.trans h.output,p0 h.size k.size,fun i ao=>(k.block i ao).trans (h.block i ao)⟩
theorem Kept.drew{B:Nat->Prop}{a w:World}(h:Kept B a w):Kept B a w.drew:=⟨h.os,h.tape,h.output,h.size,h.block⟩
theorem Kept.alloc{B:Nat->Prop}{a w:World}(h:Kept B a w)(cY:∀k,B k->k<w.heap.size)(o:Obj):Kept B a (w.alloc o):=
 h.trans ⟨rfl,rfl,rfl,by simp,fun k aU=>Below.heap_alloc _ _ _ (cY k aU)⟩
theorem Kept.below{n:Nat}{w bu:World}(h:Kept (fun k=>k<n) w bu):Below n w bu:=⟨h.os,h.tape,h.output,h.size,h.block⟩
theorem Kept.ak8{n:Nat}{B:Nat->Prop}{w bu:World}(h:Below n w bu)(cY:∀k,B k->k<n):Kept B w bu:=⟨h.os,h.tape,h.output,h.size,fun k aU=>h.block k (cY k aU)⟩
structure ca (P:Program) (B:Nat->Prop) (w0:World) (μ:b1) (H:aB) (w:World):Prop where
 below:Kept B w0 w
 nW:∀k,B k->k<w.heap.size
 fP:∀id L,μ id=some L->∃b o,H.mem.get id=some b/\w.heap[L.r]?=some o/\kg P μ L b o
 sep:∀id l4 L bQ,id≠l4->μ id=some L->μ l4=some bQ->L.r=bQ.r->RQ H id l4
 lt:∀id L,μ id=some L->id<H.ak
 own:∀id L,μ id=some L->id<H.bZ->L.r=id
 new:∀id L,μ id=some L->H.bZ<=id->H.mem.get id≠some .dead->¬B L.r
 tE:∀g c e o f z s,g<H.bZ->H.mem.get g=some (.row c e o f z s)->∃L,μ g=some L
 kM:H.bZ<=H.ak
 q9:∀id c e f z s,H.mem.get id=some (.row c e true f z s)->f<H.ct
 k3:∀f l x,H.bM.get f=some l->x∈l->x<H.ak/\(ka (H.mem.get x)=true\/H.mem.get x=some .dead)
 vq:∀f l,H.bM.get f=some l->MA H l
structure Step (μ bI:b1) (H H':aB):Prop where
 ext:Ext μ bI
 ak:H.ak<=H'.ak
 bZ:H'.bZ=H.bZ
 eF:∀id,id<H.ak->μ id=none->bI id=none/\(ka (H.mem.get id)=false->H'.mem.get id=H.mem.get id)
theorem Step.refl(μ:b1)(H:aB):Step μ μ H H:=⟨Ext.refl μ,cZ _,rfl,fun _ _ h=>⟨h,fun _=>rfl⟩⟩
theorem Step.trans{μ fZ rZ:b1}{H H1 cN:aB}(h:Step μ fZ H H1)(k:Step fZ rZ H1 cN):Step μ rZ H cN:=
 ⟨h.ext.trans k.ext,p0 h.ak k.ak,k.bZ.trans h.bZ,fun id ao aP=>by
  obtain⟨a,b⟩:=h.eF id ao aP;obtain⟨c,d⟩:=k.eF id (yv ao h.ak) a;exact⟨c,fun ar=>by rw[d (by rw[b ar];exact ar),b ar]⟩⟩
theorem aB.x9{H H':aB}{id:Nat}{b:ff}(h:H.upd id b=some H'):H'.ak=H.ak/\H'.bM=H.bM/\H'.ct=H.ct/\H'.bZ=H.bZ/\∀m,H'.mem.get m=if m=id then some b else H.mem.get m:=by
 obtain⟨mem,ak,bM,ct,bZ⟩:=H;simp only[aB.upd] at h;cases aw:bg.put b mem id with
 |none=>rw[aw] at h;cases h
 |some m=>rw[aw] at h;injection h with h;subst h;exact⟨rfl,rfl,rfl,rfl,bg.get_put aw⟩
theorem aB.qz{H H':aB}{id:Nat}{b:ff}(h:H.new b=some (id,H')):id=H.ak/\H'.ak=H.ak+1/\H'.bM=H.bM/\H'.ct=H.ct/\H'.bZ=H.bZ/\∀m,H'.mem.get m=if m=H.ak then some b else H.mem.get m:=by
 obtain⟨mem,ak,bM,ct,bZ⟩:=H;simp only[aB.new] at h;cases aw:bg.put b mem ak with
 |none=>rw[aw] at h;cases h
 |some m=>
  rw[aw] at h;simp only[aB.Qp,aB.Xr,cp,dC] at h;obtain⟨rfl,rfl⟩:=h;exact⟨rfl,rfl,rfl,rfl,rfl,bg.get_put aw⟩
theorem aB.EX{H H':aB}{f:Nat}{l:List Nat}(h:H.rS f l=some H'):H'.ak=H.ak/\H'.mem=H.mem/\H'.ct=H.ct/\H'.bZ=H.bZ/\∀m,H'.bM.get m=if m=f then some l else H.bM.get m:=by
 obtain⟨mem,ak,bM,ct,bZ⟩:=H;simp only[aB.rS] at h;cases aw:bg.put l bM f with
 |none=>rw[aw] at h;cases h
 |some m=>rw[aw] at h;injection h with h;subst h;exact⟨rfl,rfl,rfl,rfl,bg.get_put aw⟩
theorem aB.Lj{H H':aB}{f:Nat}(h:H.vU=some (f,H')):f=H.ct/\H'.ak=H.ak/\H'.mem=H.mem/\H'.ct=H.ct+1/\H'.bZ=H.bZ/\∀m,H'.bM.get m=if m=H.ct then some [H.ak] else H.bM.get m:=by
 obtain⟨mem,ak,bM,ct,bZ⟩:=H;simp only[aB.vU] at h;cases aw:bg.put [ak] bM ct with
 |none=>rw[aw] at h;cases h
 |some m=>
  rw[aw] at h;simp only[aB.Qq,aB.Xs,cp,dC] at h;obtain⟨rfl,rfl⟩:=h;exact⟨rfl,rfl,rfl,rfl,rfl,bg.get_put aw⟩
def b1.put(μ:b1)(id:Nat)(L:Loc):b1:=fun x=>if x=id then some L else μ x
theorem b1.kT(μ:b1)(id:Nat)(L:Loc):μ.put id L id=some L:=by simp[b1.put]
theorem b1.uC(μ:b1){id x:Nat}(L:Loc)(h:x≠id):μ.put id L x=μ x:=by simp[b1.put,h]
section
variable {P:Program}{B:Nat->Prop}{w0 w:World}{μ:b1}{H H':aB}
theorem ca.Xz(h:ca P B w0 μ H w):μ H.ak=none:=by
 cases U:μ H.ak with
 |none=>rfl
 |some L=>have:=h.lt _ _ U;omega
theorem ca.w8(h:ca P B w0 μ H w)(L:Loc):Ext μ (μ.put H.ak L):=fun id bQ U=>by
 by_cases e:id=H.ak
 ·subst e;rw[h.Xz] at U;cases U
 ·rw[b1.uC _ _ e];exact U
theorem ca.drew(h:ca P B w0 μ H w):ca P B w0 μ H w.drew:=
 ⟨h.below.drew,h.nW,h.fP,h.sep,h.lt,h.own,h.new,h.tE,h.kM,h.q9,h.k3,h.vq⟩
theorem ca.drawn(h:ca P B w0 μ H w)(n:Nat):ca P B w0 μ H {w with drawn:=n}:=
 ⟨⟨h.below.os,h.below.tape,h.below.output,h.below.size,h.below.block⟩,h.nW,h.fP,h.sep,h.lt,h.own,h.new,h.tE,h.kM,h.q9,h.k3,h.vq⟩
theorem DV(w:World)(o:Obj)(r:Nat):(w.alloc o).heap[r]?=if r=w.heap.size then some o else w.heap[r]?:=by
 show(w.heap.push o)[r]?=_;rw[Array.getElem?_push]
theorem ca.Xb(h:ca P B w0 μ H w){b:ff}{o:Obj}{L:Loc}(aN:H'.ak=H.ak+1)(eW:H'.bZ=H.bZ)(cv:∀m,H'.mem.get m=if m=H.ak then some b else H.mem.get m)
 (Pl:H.ct<=H'.ct)(oR:∀f l,H'.bM.get f=some l->H.bM.get f=some l\/(l=[H.ak]/\ka (some b)=true))(ahh:∀f l,f<H.ct->H.bM.get f=some l->H'.bM.get f=some l)
 (aim:∀c e f z s,b=.row c e true f z s->f<H'.ct)(ay:L.r=w.heap.size)(au:kg P (μ.put H.ak L) L b o):
 ca P B w0 (μ.put H.ak L) H' (w.alloc o)/\Step μ (μ.put H.ak L) H H':=by
 have hM:=h.w8 L;have ew:∀x bQ,(μ.put H.ak L) x=some bQ->x≠H.ak->μ x=some bQ:=fun x bQ a b=>by rwa [b1.uC _ _ b] at a
 have c4:∀x bQ,μ x=some bQ->bQ.r<w.heap.size:=fun x bQ U=>by
  obtain⟨b',o',_,ar,_⟩:=h.fP x bQ U;rcases kY bQ.r w.heap.size with dE|dE
  ·exact dE
  ·rw[s3 dE] at ar;cases ar
 refine⟨⟨h.below.alloc h.nW o,?_,?_,?_,?_,?_,?_,?_,?_,?_,?_,?_⟩,⟨hM,by omega,eW,?_⟩⟩
 ·intro k aU;have:=h.nW k aU;show k<(w.heap.push o).size;rw[RU];omega
 ·intro x bQ U;by_cases dk:x=H.ak
  ·subst dk;rw[b1.kT] at U;injection U with U;subst U
   exact⟨b,o,by rw[cv];simp,by rw[DV,ay];simp,au⟩
  ·have e1:=ew x bQ U dk;obtain⟨b',o',aa,ae,aG⟩:=h.fP x bQ e1;exact⟨b',o',by rw[cv,ap dk];exact aa,by rw[DV,ap (by have:=c4 x bQ e1;omega)];exact ae,aG.mono hM⟩
 ·intro x y eM gr fl U ai n';by_cases dk:x=H.ak
  ·subst dk;rw[b1.kT] at U;injection U with U;subst U
   have:=c4 y gr (ew y gr ai (Ne.symm fl));omega
  ·by_cases kQ:y=H.ak
   ·subst kQ;rw[b1.kT] at ai;injection ai with ai;subst ai
    have:=c4 x eM (ew x eM U dk);omega
   ·rcases h.sep x y eM gr fl (ew x eM U dk) (ew y gr ai kQ) n' with d|d|⟨f,l,⟨c,e,z,s,q⟩,⟨ch,bG,hQ,c3,dz⟩,av,m1,m2⟩
    ·exact .inl (by rw[cv,ap dk];exact d)
    ·exact .inr (.inl (by rw[cv,ap kQ];exact d))
    ·exact .inr (.inr ⟨f,l,⟨c,e,z,s,by rw[cv,ap dk];exact q⟩,⟨ch,bG,hQ,c3,by rw[cv,ap kQ];exact dz⟩,ahh f l (h.q9 _ _ _ _ _ _ q) av,m1,m2⟩)
 ·intro x bQ U;by_cases dk:x=H.ak
  ·omega
  ·have:=h.lt x bQ (ew x bQ U dk);omega
 ·intro x bQ U aq;rw[eW] at aq;have dk:x≠H.ak:=by have:=h.kM;omega
  exact h.own x bQ (ew x bQ U dk) aq
 ·intro x bQ U aq d';rw[eW] at aq;by_cases dk:x=H.ak
  ·subst dk;rw[b1.kT] at U;injection U with U;subst U
   rw[ay];exact fun q=>Fx _ (h.nW _ q)
  ·exact h.new x bQ (ew x bQ U dk) aq (by rw[cv,ap dk] at d';exact d')
 ·intro g c e o f z s aq hm;rw[eW] at aq;have fD:g≠H.ak:=by have:=h.kM;omega
  rw[cv,ap fD] at hm;obtain⟨bQ,bT⟩:=h.tE g c e o f z s aq hm;exact⟨bQ,hM _ _ bT⟩
 ·rw[eW,aN];have:=h.kM;omega
 ·intro x c e f z s hm;rw[cv] at hm;split at hm
  ·injection hm with hm;exact aim c e f z s hm
  ·exact yv (h.q9 x c e f z s hm) Pl
 ·intro f l x av U;rcases oR f l av with av|⟨rfl,ar⟩
  ·obtain⟨a,d⟩:=h.k3 f l x av U;have dk:x≠H.ak:=by omega
   refine⟨by omega,?_⟩;rw[cv,ap dk];exact d
  ·simp at U;subst U;exact⟨by omega,.inl (by rw[cv];simpa using ar)⟩
 ·intro f l av;rcases oR f l av with av|⟨rfl,_⟩
  ·refine(h.vq f l av).imp_of_mem ?_;intro x y U ai fl c e f1 z s ch bG cW hQ c3 q dz;have e1:=(h.k3 f l x av U).1;have hf:=(h.k3 f l y av ai).1;rw[cv,ap (by omega)] at q dz;exact fl c e _ z s ch bG cW hQ c3 q dz
  ·exact So _ _
 ·intro x U jj;have dk:x≠H.ak:=by omega
  exact⟨by rw[b1.uC _ _ dk];exact jj,fun _=>by rw[cv,ap dk]⟩
theorem ca.made(h:ca P B w0 μ H w){id:Nat}{b:ff}{o:Obj}{L:Loc}(aP:H.new b=some (id,H'))(ar:ka (some b)=false)(ay:L.r=w.heap.size)(au:kg P (μ.put H.ak L) L b o):
 ca P B w0 (μ.put H.ak L) H' (w.alloc o)/\Step μ (μ.put H.ak L) H H'/\id=H.ak:=by
 obtain⟨rfl,aN,bn,cP,eW,cv⟩:=aB.qz aP;obtain⟨a,b⟩:=h.Xb (H':=H') aN eW cv (by omega) (fun f l x=>.inl (by rw[<-bn];exact x)) (fun f l _ x=>by rw[bn];exact x) (fun c e f z s q=>by rw[q] at ar;simp[ka] at ar) ay au;exact⟨a,b,rfl⟩
theorem ca.Qh(h:ca P B w0 μ H w){id:Nat}{cells:List Value}{elem:TypeId}{sh:Bool}{o:Obj}{L:Loc}(aP:H.od cells elem sh=some (id,H'))(ay:L.r=w.heap.size)
 (au:∀f,kg P (μ.put H.ak L) L (.row cells elem true f 0 sh) o):
 ca P B w0 (μ.put H.ak L) H' (w.alloc o)/\Step μ (μ.put H.ak L) H H'/\id=H.ak:=by
 unfold aB.od at aP;cases aC:H.vU with
 |none=>rw[aC] at aP;cases aP
 |some p=>
  obtain⟨f,H1⟩:=p;rw[aC] at aP;obtain⟨rfl,bo,a2,a3,a4,a5⟩:=aB.Lj aC;obtain⟨rfl,aN,bn,cP,eW,cv⟩:=aB.qz aP
  obtain⟨x,y⟩:=h.Xb (H':=H') (b:=.row cells elem true H.ct 0 sh) (o:=o) (L:=L) (by omega) (by rw[eW,a4]) (fun m=>by rw[cv,bo,a2]) (by omega)
   (fun f l av=>by
    rw[bn,a5] at av;split at av
    ·injection av with av;exact .inr ⟨av.symm,rfl⟩
    ·exact .inl av)
   (fun f l aC av=>by rw[bn,a5,ap (by omega)];exact av)
   (fun c e f z s q=>by injection q with _ _ _ q;omega) ay (au _)
  exact⟨x,y,bo⟩
theorem ca.write(h:ca P B w0 μ H w){id:Nat}{L:Loc}{b':ff}{o':Obj}(bT:μ id=some L)(aq:H.bZ<=id)(vI:H.mem.get id≠some .dead)
 (aN:H'.ak=H.ak)(bn:H'.ct=H.ct)(cP:H'.bZ=H.bZ)(Ds:H'.mem.get id=some b')
 (b7:∀x,x≠id->H'.mem.get x=H.mem.get x\/(H'.mem.get x=some .dead/\(ka (H.mem.get x)=true\/H.mem.get x=some .dead)))
 (aeb:∀x bQ,x≠id->μ x=some bQ->bQ.r=L.r->H'.mem.get x=some .dead)
 (Nx:∀f l,H.bM.get f=some l->H'.bM.get f=some l\/∀x y,x∈l->y∈l->x≠y->H'.mem.get x=some .dead\/H'.mem.get y=some .dead)
 (Gp:∀f l,H'.bM.get f=some l->H.bM.get f=some l\/(l=[id]/\ka (some b')=true))
 (dW:∀c e f z s,b'=.row c e true f z s->∃ch bG hQ c3,H.mem.get id=some (.row ch bG true f hQ c3)/\ch.length=c.length)
 (V2:ka (H.mem.get id)=true->ka (some b')=true)(au:kg P μ L b' o'):
 ca P B w0 μ H' {w with heap:=w.heap.setIfInBounds L.r o'}/\Step μ μ H H':=by
 have rj:∀x,H.mem.get x=some .dead->H'.mem.get x=some .dead:=fun x U=>by
  have cc:x≠id:=fun e=>vI (e▸U);rcases b7 x cc with q|q
  ·rw[q,U]
  ·exact q.1
 have oR:∀x f,xM H x f->H'.mem.get x=some .dead\/xM H' x f:=fun x f U=>by
  obtain⟨c,e,z,s,q⟩:=U;by_cases iw:x=id
  ·subst iw;right
   have ar:=V2 (by rw[q];rfl);cases b' with
   |row bt w2 uv f1 fA s1=>
    simp only[ka] at ar;subst ar;obtain⟨ch,bG,hQ,c3,dz,_⟩:=dW bt w2 f1 fA s1 rfl;rw[q] at dz;injection dz with dz;injection dz with _ _ _ amE;subst amE
    exact⟨bt,w2,fA,s1,Ds⟩
   |_=>simp[ka] at ar
  ·rcases b7 x iw with p|p
   ·right;exact⟨c,e,z,s,by rw[p];exact q⟩
   ·left;exact p.1
 have Og:L.r<w.heap.size:=by
  obtain⟨b,o,_,ar,_⟩:=h.fP id L bT;rcases kY L.r w.heap.size with dE|dE
  ·exact dE
  ·rw[s3 dE] at ar;cases ar
 have Kf:=h.new id L bT aq vI;have ec:∀r,({w with heap:=w.heap.setIfInBounds L.r o'}:World).heap[r]?=if r=L.r then some o' else w.heap[r]?:=fun r=>by
  show(w.heap.setIfInBounds L.r o')[r]?=_;rw[Am];by_cases ay:L.r=r
  ·subst ay;simp[Og]
  ·rw[ap ay,ap (Ne.symm ay)]
 have gj:∀x c e f z s,H'.mem.get x=some (.row c e true f z s)->∃ch bG hQ c3,H.mem.get x=some (.row ch bG true f hQ c3)/\ch.length=c.length:=fun x c e f z s hm=>by
  by_cases iw:x=id
  ·subst iw;rw[Ds] at hm;injection hm with hm
   exact dW c e f z s hm
  ·rcases b7 x iw with q|q
   ·rw[q] at hm;exact⟨c,e,z,s,hm,rfl⟩
   ·rw[q.1] at hm;cases hm
 refine⟨⟨⟨h.below.os,h.below.tape,h.below.output,?_,?_⟩,?_,?_,?_,?_,?_,?_,?_,?_,?_,?_,?_⟩,⟨Ext.refl _,by omega,cP,?_⟩⟩
 ·show w0.heap.size<=(w.heap.setIfInBounds L.r o').size;rw[Jc];exact h.below.size
 ·intro k aU;rw[ec,ap (fun e=>by subst e;exact Kf aU)];exact h.below.block k aU
 ·intro k aU;show k<(w.heap.setIfInBounds L.r o').size;rw[Jc];exact h.nW k aU
 ·intro x bQ U;by_cases iw:x=id
  ·subst iw;rw[bT] at U;injection U with U;subst U
   exact⟨b',o',Ds,by rw[ec];simp,au⟩
  ·by_cases ay:bQ.r=L.r
   ·exact⟨.dead,o',aeb x bQ iw U ay,by rw[ec,aE ay],by simp[kg]⟩
   ·obtain⟨b,o,dS,iz,iX⟩:=h.fP x bQ U;rcases b7 x iw with q|q
    ·exact⟨b,o,by rw[q];exact dS,by rw[ec,ap ay];exact iz,iX⟩
    ·exact⟨.dead,o,q.1,by rw[ec,ap ay];exact iz,by cases o<;>simp[kg]⟩
 ·intro x y eM gr fl U ai n';rcases h.sep x y eM gr fl U ai n' with d|d|⟨f,l,q,dz,av,m1,m2⟩
  ·exact .inl (rj x d)
  ·exact .inr (.inl (rj y d))
  ·rcases oR x f q with d|q
   ·exact .inl d
   ·rcases oR y f dz with d|dz
    ·exact .inr (.inl d)
    ·rcases Nx f l av with c6|bB
     ·exact .inr (.inr ⟨f,l,q,dz,c6,m1,m2⟩)
     ·rcases bB x y m1 m2 fl with d|d
      ·exact .inl d
      ·exact .inr (.inl d)
 ·intro x bQ U;rw[aN];exact h.lt x bQ U
 ·intro x bQ U e1;rw[cP] at e1;exact h.own x bQ U e1
 ·intro x bQ U e1 d';rw[cP] at e1;exact h.new x bQ U e1 fun q=>d' (rj x q)
 ·intro g c e o f z s qi hm;rw[cP] at qi;have cc:g≠id:=by omega
  rcases b7 g cc with q|q
  ·rw[q] at hm;exact h.tE g c e o f z s qi hm
  ·rw[q.1] at hm;cases hm
 ·rw[cP,aN];exact h.kM
 ·intro x c e f z s hm;rw[bn];by_cases iw:x=id
  ·subst iw;rw[Ds] at hm;injection hm with hm
   obtain⟨ch,bG,hQ,c3,dz,_⟩:=dW c e f z s hm;exact h.q9 _ _ _ _ _ _ dz
  ·rcases b7 x iw with q|q
   ·rw[q] at hm;exact h.q9 x c e f z s hm
   ·rw[q.1] at hm;cases hm
 ·intro f l x av U;rw[aN];rcases Gp f l av with av|⟨rfl,ar⟩
  ·obtain⟨a,d⟩:=h.k3 f l x av U;refine⟨a,?_⟩;rcases d with d|d
   ·by_cases iw:x=id
    ·subst iw;left;rw[Ds];exact V2 d
    ·rcases b7 x iw with q|q
     ·left;rw[q];exact d
     ·right;exact q.1
   ·right;exact rj x d
  ·simp at U;subst U;exact⟨h.lt _ _ bT,.inl (by rw[Ds];exact ar)⟩
 ·intro f l av;rcases Gp f l av with av|⟨rfl,_⟩
  ·refine(h.vq f l av).imp ?_;intro x y fl c e f z s ch bG cW hQ c3 q dz;obtain⟨bt,w2,fA,s1,bd,a6⟩:=gj x c e f z s q;obtain⟨bw,are,z2,s2,b9,fN⟩:=gj y ch bG cW hQ c3 dz;have:=fl _ _ _ _ _ _ _ _ _ _ bd b9;omega
  ·exact So _ _
 ·intro x U jj;refine⟨jj,fun ar=>?_⟩;have iw:x≠id:=fun e=>by subst e;rw[bT] at jj;cases jj
  rcases b7 x iw with q|q
  ·exact q
  ·rcases q.2 with r|r
   ·rw[ar] at r;cases r
   ·rw[q.1,r]
theorem ca.kill(h:ca P B w0 μ H w)(aN:H'.ak=H.ak)(bn:H'.ct=H.ct)(cP:H'.bZ=H.bZ)
 (b7:∀x,H'.mem.get x=H.mem.get x\/(H'.mem.get x=some .dead/\(ka (H.mem.get x)=true\/H.mem.get x=some .dead)))
 (Nx:∀f l,H.bM.get f=some l->∃l',H'.bM.get f=some l'/\l'.Sublist l/\∀x,x∈l->x∉l'->H'.mem.get x=some .dead)
 (Gp:∀f l',H'.bM.get f=some l'->∃l,H.bM.get f=some l/\l'.Sublist l):
 ca P B w0 μ H' w/\Step μ μ H H':=by
 have rj:∀x,H.mem.get x=some .dead->H'.mem.get x=some .dead:=fun x U=>by
  rcases b7 x with q|q
  ·rw[q,U]
  ·exact q.1
 have oR:∀x f,xM H x f->H'.mem.get x=some .dead\/xM H' x f:=fun x f U=>by
  obtain⟨c,e,z,s,q⟩:=U;rcases b7 x with p|p
  ·right;exact⟨c,e,z,s,by rw[p];exact q⟩
  ·left;exact p.1
 have gj:∀x c e f z s,H'.mem.get x=some (.row c e true f z s)->H.mem.get x=some (.row c e true f z s):=fun x c e f z s hm=>by
  rcases b7 x with q|q
  ·rw[q] at hm;exact hm
  ·rw[q.1] at hm;cases hm
 refine⟨⟨h.below,h.nW,?_,?_,?_,?_,?_,?_,?_,?_,?_,?_⟩,⟨Ext.refl _,by omega,cP,?_⟩⟩
 ·intro x bQ U;obtain⟨b,o,dS,iz,iX⟩:=h.fP x bQ U;rcases b7 x with q|q
  ·exact⟨b,o,by rw[q];exact dS,iz,iX⟩
  ·exact⟨.dead,o,q.1,iz,by cases o<;>simp[kg]⟩
 ·intro x y eM gr fl U ai n';rcases h.sep x y eM gr fl U ai n' with d|d|⟨f,l,q,dz,av,m1,m2⟩
  ·exact .inl (rj x d)
  ·exact .inr (.inl (rj y d))
  ·rcases oR x f q with d|q
   ·exact .inl d
   ·rcases oR y f dz with d|dz
    ·exact .inr (.inl d)
    ·obtain⟨l',aa,_,aG⟩:=Nx f l av;by_cases kP:x∈l'
     ·by_cases HS:y∈l'
      ·exact .inr (.inr ⟨f,l',q,dz,aa,kP,HS⟩)
      ·exact .inr (.inl (aG y m2 HS))
     ·exact .inl (aG x m1 kP)
 ·intro x bQ U;rw[aN];exact h.lt x bQ U
 ·intro x bQ U e1;rw[cP] at e1;exact h.own x bQ U e1
 ·intro x bQ U e1 d';rw[cP] at e1;exact h.new x bQ U e1 fun q=>d' (rj x q)
 ·intro g c e o f z s qi hm;rw[cP] at qi;rcases b7 g with q|q
  ·rw[q] at hm;exact h.tE g c e o f z s qi hm
  ·rw[q.1] at hm;cases hm
 ·rw[cP,aN];exact h.kM
 ·intro x c e f z s hm;rw[bn];exact h.q9 x c e f z s (gj x c e f z s hm)
 ·intro f l x av U;rw[aN];obtain⟨l0,aa,ae⟩:=Gp f l av;obtain⟨a,d⟩:=h.k3 f l0 x aa (ae.mem U);refine⟨a,?_⟩;rcases b7 x with q|q
  ·rw[q];exact d
  ·right;exact q.1
 ·intro f l av;obtain⟨l0,aa,ae⟩:=Gp f l av;refine((h.vq f l0 aa).sublist ae).imp ?_;intro x y fl c e f z s ch bG cW hQ c3 q dz;exact fl _ _ _ _ _ _ _ _ _ _ (gj _ _ _ _ _ _ q) (gj _ _ _ _ _ _ dz)
 ·intro x U jj;refine⟨jj,fun ar=>?_⟩;rcases b7 x with q|q
  ·exact q
  ·rcases q.2 with r|r
   ·rw[ar] at r;cases r
   ·rw[q.1,r]
theorem Y8(h:ca P B w0 μ H w){f:Nat}{l l0:List Nat}{cells:List Value}{elem:TypeId}{eB:Nat}{sh:Bool}(av:H.bM.get f=some l0)(kx:l.Sublist l0)
 (cv:∀m,H'.mem.get m=if m=H.ak then some (.row cells elem true f eB sh) else H.mem.get m)
 (im:∀m,H'.bM.get m=if m=f then some (H.ak::l) else H.bM.get m)(xF:∀y∈l,∀c e f z s,H.mem.get y=some (.row c e true f z s)->c.length<=cells.length):
 ∀cW l',H'.bM.get cW=some l'->MA H' l':=by
 have XO:∀cW l',H.bM.get cW=some l'->MA H' l':=fun cW l' c6=>by
  refine(h.vq cW l' c6).imp_of_mem ?_;intro x y U ai fl c e f1 z s ch bG f2 hQ c3 q dz;have e1:=(h.k3 cW l' x c6 U).1;have hf:=(h.k3 cW l' y c6 ai).1;rw[cv,ap (by omega)] at q dz;exact fl _ _ _ _ _ _ _ _ _ _ q dz
 intro cW l' c6;rw[im] at c6;split at c6
 ·injection c6 with c6;subst c6
  refine Sn.2 ⟨fun y ai c e f1 z s ch bG f2 hQ c3 q dz=>?_,(XO f l0 av).sublist kx⟩;have hf:=(h.k3 f l0 y av (kx.mem ai)).1;rw[cv,aE rfl] at q;rw[cv,ap (by omega)] at dz;injection q with q;injection q with q;subst q
  exact xF y ai _ _ _ _ _ dz
 ·exact XO cW l' c6
theorem ca.Yl(h:ca P B w0 μ H w){f:Nat}{l l0:List Nat}{cells:List Value}{elem:TypeId}{eB:Nat}{sh:Bool}{o:Obj}{L:Loc}(av:H.bM.get f=some l0)(kx:l.Sublist l0)(HB:∀x,x∈l0->x∉l->H.mem.get x=some .dead)(aC:f<H.ct)
 (aN:H'.ak=H.ak+1)(bn:H'.ct=H.ct)(eW:H'.bZ=H.bZ)(cv:∀m,H'.mem.get m=if m=H.ak then some (.row cells elem true f eB sh) else H.mem.get m)
 (im:∀m,H'.bM.get m=if m=f then some (H.ak::l) else H.bM.get m)(xF:∀y∈l,∀c e f z s,H.mem.get y=some (.row c e true f z s)->c.length<=cells.length)
 (ay:L.r=w.heap.size)(au:kg P (μ.put H.ak L) L (.row cells elem true f eB sh) o):
 ca P B w0 (μ.put H.ak L) H' (w.alloc o)/\Step μ (μ.put H.ak L) H H':=by
 have hM:=h.w8 L;have ew:∀x bQ,(μ.put H.ak L) x=some bQ->x≠H.ak->μ x=some bQ:=fun x bQ a b=>by rwa [b1.uC _ _ b] at a
 have c4:∀x bQ,μ x=some bQ->bQ.r<w.heap.size:=fun x bQ U=>by
  obtain⟨b',o',_,ar,_⟩:=h.fP x bQ U;rcases kY bQ.r w.heap.size with dE|dE
  ·exact dE
  ·rw[s3 dE] at ar;cases ar
 refine⟨⟨h.below.alloc h.nW o,?_,?_,?_,?_,?_,?_,?_,?_,?_,?_,?_⟩,⟨hM,by omega,eW,?_⟩⟩
 ·intro k aU;have:=h.nW k aU;show k<(w.heap.push o).size;rw[RU];omega
 ·intro x bQ U;by_cases dk:x=H.ak
  ·subst dk;rw[b1.kT] at U;injection U with U;subst U
   exact⟨_,o,by rw[cv];simp,by rw[DV,ay];simp,au⟩
  ·have e1:=ew x bQ U dk;obtain⟨b',o',aa,ae,aG⟩:=h.fP x bQ e1;exact⟨b',o',by rw[cv,ap dk];exact aa,by rw[DV,ap (by have:=c4 x bQ e1;omega)];exact ae,aG.mono hM⟩
 ·intro x y eM gr fl U ai n';by_cases dk:x=H.ak
  ·subst dk;rw[b1.kT] at U;injection U with U;subst U
   have:=c4 y gr (ew y gr ai (Ne.symm fl));omega
  ·by_cases kQ:y=H.ak
   ·subst kQ;rw[b1.kT] at ai;injection ai with ai;subst ai
    have:=c4 x eM (ew x eM U dk);omega
   ·rcases h.sep x y eM gr fl (ew x eM U dk) (ew y gr ai kQ) n' with d|d|⟨cW,l',⟨c,e,z,s,q⟩,⟨ch,bG,hQ,c3,dz⟩,c6,m1,m2⟩
    ·exact .inl (by rw[cv,ap dk];exact d)
    ·exact .inr (.inl (by rw[cv,ap kQ];exact d))
    ·by_cases qf:cW=f
     ·subst qf;rw[av] at c6;injection c6 with c6;subst c6
      by_cases ky:x∈l
      ·by_cases HR:y∈l
       ·exact .inr (.inr ⟨cW,H.ak::l,⟨c,e,z,s,by rw[cv,ap dk];exact q⟩,⟨ch,bG,hQ,c3,by rw[cv,ap kQ];exact dz⟩,by rw[im];simp,by simp[ky],by simp[HR]⟩)
       ·exact .inr (.inl (by rw[cv,ap kQ];exact HB y m2 HR))
      ·exact .inl (by rw[cv,ap dk];exact HB x m1 ky)
     ·exact .inr (.inr ⟨cW,l',⟨c,e,z,s,by rw[cv,ap dk];exact q⟩,⟨ch,bG,hQ,c3,by rw[cv,ap kQ];exact dz⟩,by rw[im,ap qf];exact c6,m1,m2⟩)
 ·intro x bQ U;by_cases dk:x=H.ak
  ·omega
  ·have:=h.lt x bQ (ew x bQ U dk);omega
 ·intro x bQ U aq;rw[eW] at aq;have dk:x≠H.ak:=by have:=h.kM;omega
  exact h.own x bQ (ew x bQ U dk) aq
 ·intro x bQ U aq d';rw[eW] at aq;by_cases dk:x=H.ak
  ·subst dk;rw[b1.kT] at U;injection U with U;subst U
   rw[ay];exact fun q=>Fx _ (h.nW _ q)
  ·exact h.new x bQ (ew x bQ U dk) aq (by rw[cv,ap dk] at d';exact d')
 ·intro g c e o f z s aq hm;rw[eW] at aq;have fD:g≠H.ak:=by have:=h.kM;omega
  rw[cv,ap fD] at hm;obtain⟨bQ,bT⟩:=h.tE g c e o f z s aq hm;exact⟨bQ,hM _ _ bT⟩
 ·rw[eW,aN];have:=h.kM;omega
 ·intro x c e cW z s hm;rw[cv] at hm;split at hm
  ·injection hm with hm;injection hm with _ _ _ hm;omega
  ·have:=h.q9 x c e cW z s hm;omega
 ·intro cW l' x c6 U;rw[im] at c6;split at c6
  ·injection c6 with c6;subst c6
   simp at U;rcases U with U|U
   ·subst U;exact⟨by omega,.inl (by rw[cv];simp[ka])⟩
   ·obtain⟨a,d⟩:=h.k3 f l0 x av (kx.mem U);exact⟨by omega,by rw[cv,ap (by omega)];exact d⟩
  ·obtain⟨a,d⟩:=h.k3 cW l' x c6 U;exact⟨by omega,by rw[cv,ap (by omega)];exact d⟩
 ·exact Y8 h av kx cv im xF
 ·intro x U jj;have dk:x≠H.ak:=by omega
  exact⟨by rw[b1.uC _ _ dk];exact jj,fun _=>by rw[cv,ap dk]⟩
theorem ca.amt(h:ca P B w0 μ H w){f id:Nat}{l l0:List Nat}{cells:List Value}{elem:TypeId}{eB:Nat}{sh:Bool}{o o':Obj}{L:Loc}(av:H.bM.get f=some l0)(kx:l.Sublist l0)(HB:∀x,x∈l0->x∉l->H.mem.get x=some .dead)(aC:f<H.ct)(bT:μ id=some L)(aq:H.bZ<=id)(Kf:¬B L.r)
 (aN:H'.ak=H.ak+1)(bn:H'.ct=H.ct)(eW:H'.bZ=H.bZ)(cv:∀m,H'.mem.get m=if m=H.ak then some (.row cells elem true f eB sh) else H.mem.get m)
 (im:∀m,H'.bM.get m=if m=f then some (H.ak::l) else H.bM.get m)(xF:∀y∈l,∀c e f z s,H.mem.get y=some (.row c e true f z s)->c.length<=cells.length)
 (n8:∀y bQ,μ y=some bQ->bQ.r=L.r->H.mem.get y=some .dead\/(xM H y f/\y∈l/\∃b,H.mem.get y=some b/\kg P μ bQ b o'))
 (au:kg P μ L (.row cells elem true f eB sh) o'):
 ca P B w0 (μ.put H.ak L) H' {w with heap:=w.heap.setIfInBounds L.r o'}/\Step μ (μ.put H.ak L) H H':=by
 have _:=o;have hM:=h.w8 L;have ew:∀x bQ,(μ.put H.ak L) x=some bQ->x≠H.ak->μ x=some bQ:=fun x bQ a b=>by rwa [b1.uC _ _ b] at a
 have Og:L.r<w.heap.size:=by
  obtain⟨b,o,_,ar,_⟩:=h.fP id L bT;rcases kY L.r w.heap.size with dE|dE
  ·exact dE
  ·rw[s3 dE] at ar;cases ar
 have ec:∀r,({w with heap:=w.heap.setIfInBounds L.r o'}:World).heap[r]?=if r=L.r then some o' else w.heap[r]?:=fun r=>by
  show(w.heap.setIfInBounds L.r o')[r]?=_;rw[Am];by_cases ay:L.r=r
  ·subst ay;simp[Og]
  ·rw[ap ay,ap (Ne.symm ay)]
 have qk:xM H' H.ak f:=⟨cells,elem,eB,sh,by rw[cv];simp⟩;have ahl:H'.bM.get f=some (H.ak::l):=by rw[im];simp
 have side:∀y gr,y≠H.ak->μ y=some gr->gr.r=L.r->RQ H' H.ak y:=fun y gr kQ ai n'=>by
  rcases n8 y gr ai n' with d|⟨⟨c,e,z,s,q⟩,m,_⟩
  ·exact .inr (.inl (by rw[cv,ap kQ];exact d))
  ·exact .inr (.inr ⟨f,_,qk,⟨c,e,z,s,by rw[cv,ap kQ];exact q⟩,ahl,by simp,by simp[m]⟩)
 refine⟨⟨⟨h.below.os,h.below.tape,h.below.output,?_,?_⟩,?_,?_,?_,?_,?_,?_,?_,?_,?_,?_,?_⟩,⟨hM,by omega,eW,?_⟩⟩
 ·show w0.heap.size<=(w.heap.setIfInBounds L.r o').size;rw[Jc];exact h.below.size
 ·intro k aU;rw[ec,ap (fun e=>by subst e;exact Kf aU)];exact h.below.block k aU
 ·intro k aU;show k<(w.heap.setIfInBounds L.r o').size;rw[Jc];exact h.nW k aU
 ·intro x bQ U;by_cases dk:x=H.ak
  ·subst dk;rw[b1.kT] at U;injection U with U;subst U
   exact⟨_,o',by rw[cv];simp,by rw[ec];simp,au.mono hM⟩
  ·have e1:=ew x bQ U dk;by_cases ay:bQ.r=L.r
   ·rcases n8 x bQ e1 ay with d|⟨_,_,b,bd,a6⟩
    ·exact⟨.dead,o',by rw[cv,ap dk];exact d,by rw[ec,aE ay],by cases o'<;>simp[kg]⟩
    ·exact⟨b,o',by rw[cv,ap dk];exact bd,by rw[ec,aE ay],a6.mono hM⟩
   ·obtain⟨b',uv,aa,ae,aG⟩:=h.fP x bQ e1;exact⟨b',uv,by rw[cv,ap dk];exact aa,by rw[ec,ap ay];exact ae,aG.mono hM⟩
 ·intro x y eM gr fl U ai n';by_cases dk:x=H.ak
  ·subst dk;rw[b1.kT] at U;injection U with U;subst U
   exact side y gr (Ne.symm fl) (ew y gr ai (Ne.symm fl)) n'.symm
  ·by_cases kQ:y=H.ak
   ·subst kQ;rw[b1.kT] at ai;injection ai with ai;subst ai
    rcases side x eM dk (ew x eM U dk) n' with d|d|⟨cW,l',q,dz,c6,m1,m2⟩
    ·exact .inr (.inl d)
    ·exact .inl d
    ·exact .inr (.inr ⟨cW,l',dz,q,c6,m2,m1⟩)
   ·rcases h.sep x y eM gr fl (ew x eM U dk) (ew y gr ai kQ) n' with d|d|⟨cW,l',⟨c,e,z,s,q⟩,⟨ch,bG,hQ,c3,dz⟩,c6,m1,m2⟩
    ·exact .inl (by rw[cv,ap dk];exact d)
    ·exact .inr (.inl (by rw[cv,ap kQ];exact d))
    ·by_cases qf:cW=f
     ·subst qf;rw[av] at c6;injection c6 with c6;subst c6
      by_cases ky:x∈l
      ·by_cases HR:y∈l
       ·exact .inr (.inr ⟨cW,H.ak::l,⟨c,e,z,s,by rw[cv,ap dk];exact q⟩,⟨ch,bG,hQ,c3,by rw[cv,ap kQ];exact dz⟩,by rw[im];simp,by simp[ky],by simp[HR]⟩)
       ·exact .inr (.inl (by rw[cv,ap kQ];exact HB y m2 HR))
      ·exact .inl (by rw[cv,ap dk];exact HB x m1 ky)
     ·exact .inr (.inr ⟨cW,l',⟨c,e,z,s,by rw[cv,ap dk];exact q⟩,⟨ch,bG,hQ,c3,by rw[cv,ap kQ];exact dz⟩,by rw[im,ap qf];exact c6,m1,m2⟩)
 ·intro x bQ U;by_cases dk:x=H.ak
  ·omega
  ·have:=h.lt x bQ (ew x bQ U dk);omega
 ·intro x bQ U aq;rw[eW] at aq;have dk:x≠H.ak:=by have:=h.kM;omega
  exact h.own x bQ (ew x bQ U dk) aq
 ·intro x bQ U aq d';rw[eW] at aq;by_cases dk:x=H.ak
  ·subst dk;rw[b1.kT] at U;injection U with U;subst U
   exact Kf
  ·exact h.new x bQ (ew x bQ U dk) aq (by rw[cv,ap dk] at d';exact d')
 ·intro g c e o f z s aq hm;rw[eW] at aq;have fD:g≠H.ak:=by have:=h.kM;omega
  rw[cv,ap fD] at hm;obtain⟨bQ,bT⟩:=h.tE g c e o f z s aq hm;exact⟨bQ,hM _ _ bT⟩
 ·rw[eW,aN];have:=h.kM;omega
 ·intro x c e cW z s hm;rw[cv] at hm;split at hm
  ·injection hm with hm;injection hm with _ _ _ hm;omega
  ·have:=h.q9 x c e cW z s hm;omega
 ·intro cW l' x c6 U;rw[im] at c6;split at c6
  ·injection c6 with c6;subst c6
   simp at U;rcases U with U|U
   ·subst U;exact⟨by omega,.inl (by rw[cv];simp[ka])⟩
   ·obtain⟨a,d⟩:=h.k3 f l0 x av (kx.mem U);exact⟨by omega,by rw[cv,ap (by omega)];exact d⟩
  ·obtain⟨a,d⟩:=h.k3 cW l' x c6 U;exact⟨by omega,by rw[cv,ap (by omega)];exact d⟩
 ·exact Y8 h av kx cv im xF
 ·intro x U jj;have dk:x≠H.ak:=by omega
  exact⟨by rw[b1.uC _ _ dk];exact jj,fun _=>by rw[cv,ap dk]⟩
theorem K8{pA:Nat}:∀{l:List Nat} {H H':aB},sK H pA l=some H'->H'.ak=H.ak/\H'.bM=H.bM/\H'.ct=H.ct/\H'.bZ=H.bZ/\
 (∀x,x∈l->x≠pA->H'.mem.get x=some .dead)/\(∀x,x∉l\/x=pA->H'.mem.get x=H.mem.get x):=by
 intro l;induction l with
 |nil=>intro H H' h;simp[sK] at h;subst h;exact⟨rfl,rfl,rfl,rfl,fun x U=>by simp at U,fun x _=>rfl⟩
 |cons y l aK=>
  intro H H' h;simp only[sK] at h;cases ai:Nat.beq y pA with
  |true=>
   rw[ai] at h;have HT:=eN ai;obtain⟨bo,a2,a3,a4,a5,dc⟩:=aK (by simpa using h);refine⟨bo,a2,a3,a4,fun x U cc=>?_,fun x U=>?_⟩
   ·simp at U;rcases U with rfl|U
    ·exact absurd HT cc
    ·exact a5 x U cc
   ·refine dc x ?_;rcases U with U|U
    ·left;simp at U;exact U.2
    ·right;exact U
  |false=>
   rw[ai] at h;have HT:y≠pA:=fun e=>by subst e;simp at ai
   simp only[dZ] at h;cases hu:H.upd y .dead with
   |none=>rw[hu] at h;cases h
   |some H1=>
    rw[hu] at h;obtain⟨bm,bl,b8,gx,u9⟩:=aB.x9 hu;obtain⟨bo,a2,a3,a4,a5,dc⟩:=aK h;refine⟨by omega,by rw[a2,bl],by omega,by omega,fun x U cc=>?_,fun x U=>?_⟩
    ·by_cases kP:x∈l
     ·exact a5 x kP cc
     ·have fl:x=y:=by simp at U;rcases U with q|q;exact q;exact absurd q kP
      rw[dc x (.inl kP),u9,aE fl]
    ·have fl:x≠y:=by
      rcases U with q|q
      ·simp at q;exact q.1
      ·rw[q];exact Ne.symm HT
     have:x∉l\/x=pA:=by
      rcases U with q|q
      ·left;simp at q;exact q.2
      ·right;exact q
     rw[dc x this,u9,ap fl]
theorem ac4{id:Nat}:∀{l l':List Nat} {H H':aB},yS H id l=some (l',H')->H'.ak=H.ak/\H'.bM=H.bM/\H'.ct=H.ct/\H'.bZ=H.bZ/\l'.Sublist l/\id∈l'/\H'.mem.get id=H.mem.get id/\
 (∀x,x∈l->x∉l'->H'.mem.get x=some .dead)/\(∀x,H'.mem.get x=H.mem.get x\/(H'.mem.get x=some .dead/\x∈l))/\(∃pre,l=pre++l'/\l'=id::l'.tail):=by
 intro l;induction l with
 |nil=>intro l' H H' h;simp[yS] at h
 |cons y l aK=>
  intro l' H H' h;simp only[yS] at h;cases ai:Nat.beq y id with
  |true=>
   rw[ai,cb] at h;simp only[cp,dC] at h;obtain⟨rfl,rfl⟩:=h;have:=eN ai;subst this;exact⟨rfl,rfl,rfl,rfl,bA _,by simp,rfl,fun x a b=>absurd a b,fun x=>.inl rfl,[],rfl,rfl⟩
  |false=>
   rw[ai,dZ] at h;have HT:y≠id:=fun e=>by subst e;simp at ai
   cases hu:H.upd y .dead with
   |none=>rw[hu] at h;cases h
   |some H1=>
    rw[hu] at h;obtain⟨bm,bl,b8,gx,u9⟩:=aB.x9 hu;obtain⟨bo,a2,a3,a4,a5,dc,cX,hs,a9,pre,q2,kJ⟩:=aK h;refine⟨by omega,by rw[a2,bl],by omega,by omega,a5.cons _,dc,by rw[cX,u9,ap (Ne.symm HT)],fun x U kP=>?_,fun x=>?_,y::pre,by rw[q2];rfl,kJ⟩
    ·by_cases e1:x∈l
     ·exact hs x e1 kP
     ·have fl:x=y:=by simp at U;rcases U with q|q;exact q;exact absurd q e1
      rcases a9 x with q|q
      ·rw[q,u9,aE fl]
      ·exact q.1
    ·rcases a9 x with q|q
     ·rw[u9] at q;split at q
      ·rename_i fl;exact .inr ⟨q,by simp[fl]⟩
      ·exact .inl q
     ·exact .inr ⟨q.1,by simp[q.2]⟩
end
end
end Go.Cre

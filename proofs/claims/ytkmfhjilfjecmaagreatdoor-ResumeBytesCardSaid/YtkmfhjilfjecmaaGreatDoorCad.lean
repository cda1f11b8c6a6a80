/- A part of the proof of ResumeBytes. -/
import Derived.Test.YtkmfhjilfjecmaaGreatDoorCac
import Derived.Laws.Append
import Derived.Laws.AppendOwn
set_option linter.unusedVariables false
set_option linter.unusedSimpArgs false
namespace Go.Cre
noncomputable section
open Go.RowKit
def Ob(N eA:Nat)(sh:Bool)(f:Nat×Nat):Prop:=(∀off,off<N->f.1<=off->off<f.2->off<eA)/\(sh=false->f.1=f.2\/f.2<=eA)
inductive wI (μ:bY):List MapEntry->List MapEntry->Prop
 |nil:wI μ [] []
 |cons (e bz:MapEntry) (es mA:List MapEntry):bz.key=e.key->plain e.key=true->bB μ e.val bz.val->wI μ es mA->wI μ (e::es) (bz::mA)
def Ap(μ:bY)(es mA:List MapEntry):Prop:=∃l,l.Perm mA/\wI μ es l
theorem wI.mono{μ bD:bY}{l m:List MapEntry}(h:wI μ l m)(e:Ext μ bD):wI bD l m:=by
 induction h with
 |nil=>exact .nil
 |cons a b es mA aa ae aF _ aI=>exact .cons a b es mA aa ae (aF.mono e) aI
theorem wI.length{μ:bY}{l m:List MapEntry}(h:wI μ l m):l.length=m.length:=by
 induction h with
 |nil=>rfl
 |cons a b es mA aa ae aF _ aI=>simp[aI]
theorem Ap.length{μ:bY}{l m:List MapEntry}(h:Ap μ l m):l.length=m.length:=by
 obtain⟨k,aa,ae⟩:=h;rw[ae.length,aa.length_eq]
theorem Ap.nil(μ:bY):Ap μ [] []:=⟨[],.refl _,.nil⟩
def lD(μ:bY)(T:bg Value)(n:Nat)(tmps:Array Value):Prop:=n<=tmps.size/\∀t v,T.get t=some v->bB μ v (tmps.getD t undef)
def km(P:Program)(μ:bY)(L:Loc):fg->Obj->Prop
 |.row cells elem opn _ eA sh,.cells c e f=>e=elem/\c.size=L.N/\P.cellsOf elem=L.sz/\cells.length<=L.N/\(opn=false->cells.length=L.N)/\
  (∀(i:Nat) v v',cells[i]?=some v->c[i]?=some v'->bB μ v v')/\Ob L.N eA sh f
 |.map es _,.map mA _=>Ap μ es mA.toList
 |.loop l,.loop l'=>l'.state=l.state/\l'.pending=l.pending/\l'.params.toList=l.params/\l'.assign=l.assign/\l'.body=l.body/\lD μ l.T l.n l'.tmps/\∃bN,μ l.iW=some bN/\l'.defers=bN.r
 |.iW ds,.deferred e8=>e8=ds/\(ds=some []\/ds=none)
 |.dead,_=>True
 |_,_=>False
theorem lD.mono{μ bD:bY}{T:bg Value}{n:Nat}{tmps:Array Value}(h:lD μ T n tmps)(e:Ext μ bD):lD bD T n tmps:=⟨h.1,fun t v x=>(h.2 t v x).mono e⟩
theorem km.mono{P:Program}{μ bD:bY}{L:Loc}{b:fg}{o:Obj}(h:km P μ L b o)(e:Ext μ bD):km P bD L b o:=by
 cases b with
 |row cells elem opn bI eA sh=>
  cases o with
  |cells c bz f=>obtain⟨aa,ae,aF,bo,eB,ht,lI⟩:=h;exact⟨aa,ae,aF,bo,eB,fun i v v' a b=>(ht i v v' a b).mono e,lI⟩
  |_=>exact h
 |map es clock=>
  cases o with
  |map mA Kh=>obtain⟨l,aa,ae⟩:=h;exact⟨l,aa,ae.mono e⟩
  |_=>exact h
 |loop l=>
  cases o with
  |loop l'=>obtain⟨aa,ae,aF,bo,eB,ht,bN,lI,A'⟩:=h;exact⟨aa,ae,aF,bo,eB,ht.mono e,bN,e _ _ lI,A'⟩
  |_=>exact h
 |iW ds=>
  cases o with
  |deferred e8=>exact h
  |_=>exact h
 |dead=>cases o<;>trivial
def kg:Option fg->Bool
 |some (.row _ _ opn _ _ _)=>opn
 |_=>false
def x0(H:aA)(id f:Nat):Prop:=∃c e z s,H.mem.get id=some (.row c e true f z s)
def Sh(H:aA)(id mi:Nat):Prop:=
 H.mem.get id=some .dead\/H.mem.get mi=some .dead\/∃f l,x0 H id f/\x0 H mi f/\H.bI.get f=some l/\id∈l/\mi∈l
def M4(H:aA)(l:List Nat):Prop:=
 l.Pairwise fun x y=>∀c e f z s cd bz cP hS c4,H.mem.get x=some (.row c e true f z s)->H.mem.get y=some (.row cd bz true cP hS c4)->cd.length<=c.length
structure Kept (B:Nat->Prop) (w br:World):Prop where
 os:br.os=w.os
 tape:br.tape=w.tape
 output:br.output=w.output
 size:w.heap.size<=br.heap.size
 block:∀k,B k->br.heap[k]?=w.heap[k]?
theorem Kept.refl(B:Nat->Prop)(w:World):Kept B w w:=⟨rfl,rfl,rfl,cW _,fun _ _=>rfl⟩
theorem Kept.trans{B:Nat->Prop}{a b c:World}(h:Kept B a b)(k:Kept B b c):Kept B a c:=
 ⟨k.os.trans h.os,k.tape.trans h.tape,k.output.trans h.output,p7 h.size k.size,fun i ao=>(k.block i ao).trans (h.block i ao)⟩
theorem Kept.drew{B:Nat->Prop}{a w:World}(h:Kept B a w):Kept B a w.drew:=⟨h.os,h.tape,h.output,h.size,h.block⟩
theorem Kept.alloc{B:Nat->Prop}{a w:World}(h:Kept B a w)(dd:∀k,B k->k<w.heap.size)(o:Obj):Kept B a (w.alloc o):=
 h.trans ⟨rfl,rfl,rfl,by simp,fun k aO=>Below.heap_alloc _ _ _ (dd k aO)⟩
theorem Kept.below{n:Nat}{w br:World}(h:Kept (fun k=>k<n) w br):Below n w br:=⟨h.os,h.tape,h.output,h.size,h.block⟩
theorem Kept.alL{n:Nat}{B:Nat->Prop}{w br:World}(h:Below n w br)(dd:∀k,B k->k<n):Kept B w br:=⟨h.os,h.tape,h.output,h.size,fun k aO=>h.block k (dd k aO)⟩
structure b9 (P:Program) (B:Nat->Prop) (w0:World) (μ:bY) (H:aA) (w:World):Prop where
 below:Kept B w0 w
 n3:∀k,B k->k<w.heap.size
 fT:∀id L,μ id=some L->∃b o,H.mem.get id=some b/\w.heap[L.r]?=some o/\km P μ L b o
 sep:∀id mi L bN,id≠mi->μ id=some L->μ mi=some bN->L.r=bN.r->Sh H id mi
 lt:∀id L,μ id=some L->id<H.ak
 own:∀id L,μ id=some L->id<H.bW->L.r=id
 new:∀id L,μ id=some L->H.bW<=id->H.mem.get id≠some .dead->¬B L.r
 tO:∀g c e o f z s,g<H.bW->H.mem.get g=some (.row c e o f z s)->∃L,μ g=some L
 kO:H.bW<=H.ak
 rm:∀id c e f z s,H.mem.get id=some (.row c e true f z s)->f<H.cn
 lb:∀f l x,H.bI.get f=some l->x∈l->x<H.ak/\(kg (H.mem.get x)=true\/H.mem.get x=some .dead)
 vA:∀f l,H.bI.get f=some l->M4 H l
structure Step (μ bD:bY) (H H':aA):Prop where
 ext:Ext μ bD
 ak:H.ak<=H'.ak
 bW:H'.bW=H.bW
 eC:∀id,id<H.ak->μ id=none->bD id=none/\(kg (H.mem.get id)=false->H'.mem.get id=H.mem.get id)
theorem Step.refl(μ:bY)(H:aA):Step μ μ H H:=⟨Ext.refl μ,cW _,rfl,fun _ _ h=>⟨h,fun _=>rfl⟩⟩
theorem Step.trans{μ f' r':bY}{H H1 cv:aA}(h:Step μ f' H H1)(k:Step f' r' H1 cv):Step μ r' H cv:=
 ⟨h.ext.trans k.ext,p7 h.ak k.ak,k.bW.trans h.bW,fun id ao aP=>by
  obtain⟨a,b⟩:=h.eC id ao aP;obtain⟨c,d⟩:=k.eC id (yD ao h.ak) a;exact⟨c,fun ar=>by rw[d (by rw[b ar];exact ar),b ar]⟩⟩
theorem aA.wB{H H':aA}{id:Nat}{b:fg}(h:H.upd id b=some H'):H'.ak=H.ak/\H'.bI=H.bI/\H'.cn=H.cn/\H'.bW=H.bW/\∀m,H'.mem.get m=if m=id then some b else H.mem.get m:=by
 obtain⟨mem,ak,bI,cn,bW⟩:=H;simp only[aA.upd] at h;cases au:bg.put b mem id with
 |none=>rw[au] at h;cases h
 |some m=>rw[au] at h;injection h with h;subst h;exact⟨rfl,rfl,rfl,rfl,bg.get_put au⟩
theorem aA.pM{H H':aA}{id:Nat}{b:fg}(h:H.new b=some (id,H')):id=H.ak/\H'.ak=H.ak+1/\H'.bI=H.bI/\H'.cn=H.cn/\H'.bW=H.bW/\∀m,H'.mem.get m=if m=H.ak then some b else H.mem.get m:=by
 obtain⟨mem,ak,bI,cn,bW⟩:=H;simp only[aA.new] at h;cases au:bg.put b mem ak with
 |none=>rw[au] at h;cases h
 |some m=>
  rw[au] at h;simp only[aA.QM,aA.XU,cp,dB] at h;obtain⟨rfl,rfl⟩:=h;exact⟨rfl,rfl,rfl,rfl,rfl,bg.get_put au⟩
theorem aA.Cu{H H':aA}{f:Nat}{l:List Nat}(h:H.qK f l=some H'):H'.ak=H.ak/\H'.mem=H.mem/\H'.cn=H.cn/\H'.bW=H.bW/\∀m,H'.bI.get m=if m=f then some l else H.bI.get m:=by
 obtain⟨mem,ak,bI,cn,bW⟩:=H;simp only[aA.qK] at h;cases au:bg.put l bI f with
 |none=>rw[au] at h;cases h
 |some m=>rw[au] at h;injection h with h;subst h;exact⟨rfl,rfl,rfl,rfl,bg.get_put au⟩
theorem aA.LG{H H':aA}{f:Nat}(h:H.wi=some (f,H')):f=H.cn/\H'.ak=H.ak/\H'.mem=H.mem/\H'.cn=H.cn+1/\H'.bW=H.bW/\∀m,H'.bI.get m=if m=H.cn then some [H.ak] else H.bI.get m:=by
 obtain⟨mem,ak,bI,cn,bW⟩:=H;simp only[aA.wi] at h;cases au:bg.put [ak] bI cn with
 |none=>rw[au] at h;cases h
 |some m=>
  rw[au] at h;simp only[aA.QN,aA.XV,cp,dB] at h;obtain⟨rfl,rfl⟩:=h;exact⟨rfl,rfl,rfl,rfl,rfl,bg.get_put au⟩
def bY.put(μ:bY)(id:Nat)(L:Loc):bY:=fun x=>if x=id then some L else μ x
theorem bY.kW(μ:bY)(id:Nat)(L:Loc):μ.put id L id=some L:=by simp[bY.put]
theorem bY.uG(μ:bY){id x:Nat}(L:Loc)(h:x≠id):μ.put id L x=μ x:=by simp[bY.put,h]
section
variable {P:Program}{B:Nat->Prop}{w0 w:World}{μ:bY}{H H':aA}
theorem b9.X3(h:b9 P B w0 μ H w):μ H.ak=none:=by
 cases U:μ H.ak with
 |none=>rfl
 |some L=>have:=h.lt _ _ U;omega
theorem b9.xk(h:b9 P B w0 μ H w)(L:Loc):Ext μ (μ.put H.ak L):=fun id bN U=>by
 by_cases e:id=H.ak
 ·subst e;rw[h.X3] at U;cases U
 ·rw[bY.uG _ _ e];exact U
theorem b9.drew(h:b9 P B w0 μ H w):b9 P B w0 μ H w.drew:=
 ⟨h.below.drew,h.n3,h.fT,h.sep,h.lt,h.own,h.new,h.tO,h.kO,h.rm,h.lb,h.vA⟩
theorem b9.drawn(h:b9 P B w0 μ H w)(n:Nat):b9 P B w0 μ H {w with drawn:=n}:=
 ⟨⟨h.below.os,h.below.tape,h.below.output,h.below.size,h.below.block⟩,h.n3,h.fT,h.sep,h.lt,h.own,h.new,h.tO,h.kO,h.rm,h.lb,h.vA⟩
theorem Eb(w:World)(o:Obj)(r:Nat):(w.alloc o).heap[r]?=if r=w.heap.size then some o else w.heap[r]?:=by
 show(w.heap.push o)[r]?=_;rw[Array.getElem?_push]
theorem b9.XE(h:b9 P B w0 μ H w){b:fg}{o:Obj}{L:Loc}(aL:H'.ak=H.ak+1)(eL:H'.bW=H.bW)(cu:∀m,H'.mem.get m=if m=H.ak then some b else H.mem.get m)
 (PK:H.cn<=H'.cn)(o0:∀f l,H'.bI.get f=some l->H.bI.get f=some l\/(l=[H.ak]/\kg (some b)=true))(ahZ:∀f l,f<H.cn->H.bI.get f=some l->H'.bI.get f=some l)
 (ai3:∀c e f z s,b=.row c e true f z s->f<H'.cn)(aw:L.r=w.heap.size)(ap:km P (μ.put H.ak L) L b o):
 b9 P B w0 (μ.put H.ak L) H' (w.alloc o)/\Step μ (μ.put H.ak L) H H':=by
 have hN:=h.xk L;have ev:∀x bN,(μ.put H.ak L) x=some bN->x≠H.ak->μ x=some bN:=fun x bN a b=>by rwa [bY.uG _ _ b] at a
 have cV:∀x bN,μ x=some bN->bN.r<w.heap.size:=fun x bN U=>by
  obtain⟨b',o',_,ar,_⟩:=h.fT x bN U;rcases ji bN.r w.heap.size with dZ|dZ
  ·exact dZ
  ·rw[tg dZ] at ar;cases ar
 refine⟨⟨h.below.alloc h.n3 o,?_,?_,?_,?_,?_,?_,?_,?_,?_,?_,?_⟩,⟨hN,by omega,eL,?_⟩⟩
 ·intro k aO;have:=h.n3 k aO;show k<(w.heap.push o).size;rw[Sl];omega
 ·intro x bN U;by_cases di:x=H.ak
  ·subst di;rw[bY.kW] at U;injection U with U;subst U
   exact⟨b,o,by rw[cu];simp,by rw[Eb,aw];simp,ap⟩
  ·have e5:=ev x bN U di;obtain⟨b',o',aa,ae,aF⟩:=h.fT x bN e5;exact⟨b',o',by rw[cu,an di];exact aa,by rw[Eb,an (by have:=cV x bN e5;omega)];exact ae,aF.mono hN⟩
 ·intro x y eN gv eZ U ai oj;by_cases di:x=H.ak
  ·subst di;rw[bY.kW] at U;injection U with U;subst U
   have:=cV y gv (ev y gv ai (Ne.symm eZ));omega
  ·by_cases kT:y=H.ak
   ·subst kT;rw[bY.kW] at ai;injection ai with ai;subst ai
    have:=cV x eN (ev x eN U di);omega
   ·rcases h.sep x y eN gv eZ (ev x eN U di) (ev y gv ai kT) oj with d|d|⟨f,l,⟨c,e,z,s,q⟩,⟨cd,bz,hS,c4,du⟩,av,m1,m2⟩
    ·exact .inl (by rw[cu,an di];exact d)
    ·exact .inr (.inl (by rw[cu,an kT];exact d))
    ·exact .inr (.inr ⟨f,l,⟨c,e,z,s,by rw[cu,an di];exact q⟩,⟨cd,bz,hS,c4,by rw[cu,an kT];exact du⟩,ahZ f l (h.rm _ _ _ _ _ _ q) av,m1,m2⟩)
 ·intro x bN U;by_cases di:x=H.ak
  ·omega
  ·have:=h.lt x bN (ev x bN U di);omega
 ·intro x bN U aq;rw[eL] at aq;have di:x≠H.ak:=by have:=h.kO;omega
  exact h.own x bN (ev x bN U di) aq
 ·intro x bN U aq dM;rw[eL] at aq;by_cases di:x=H.ak
  ·subst di;rw[bY.kW] at U;injection U with U;subst U
   rw[aw];exact fun q=>FL _ (h.n3 _ q)
  ·exact h.new x bN (ev x bN U di) aq (by rw[cu,an di] at dM;exact dM)
 ·intro g c e o f z s aq hm;rw[eL] at aq;have fE:g≠H.ak:=by have:=h.kO;omega
  rw[cu,an fE] at hm;obtain⟨bN,bS⟩:=h.tO g c e o f z s aq hm;exact⟨bN,hN _ _ bS⟩
 ·rw[eL,aL];have:=h.kO;omega
 ·intro x c e f z s hm;rw[cu] at hm;split at hm
  ·injection hm with hm;exact ai3 c e f z s hm
  ·exact yD (h.rm x c e f z s hm) PK
 ·intro f l x av U;rcases o0 f l av with av|⟨rfl,ar⟩
  ·obtain⟨a,d⟩:=h.lb f l x av U;have di:x≠H.ak:=by omega
   refine⟨by omega,?_⟩;rw[cu,an di];exact d
  ·simp at U;subst U;exact⟨by omega,.inl (by rw[cu];simpa using ar)⟩
 ·intro f l av;rcases o0 f l av with av|⟨rfl,_⟩
  ·refine(h.vA f l av).imp_of_mem ?_;intro x y U ai eZ c e f1 z s cd bz cP hS c4 q du;have e5:=(h.lb f l x av U).1;have hd:=(h.lb f l y av ai).1;rw[cu,an (by omega)] at q du;exact eZ c e _ z s cd bz cP hS c4 q du
  ·exact SL _ _
 ·intro x U jw;have di:x≠H.ak:=by omega
  exact⟨by rw[bY.uG _ _ di];exact jw,fun _=>by rw[cu,an di]⟩
theorem b9.made(h:b9 P B w0 μ H w){id:Nat}{b:fg}{o:Obj}{L:Loc}(aP:H.new b=some (id,H'))(ar:kg (some b)=false)(aw:L.r=w.heap.size)(ap:km P (μ.put H.ak L) L b o):
 b9 P B w0 (μ.put H.ak L) H' (w.alloc o)/\Step μ (μ.put H.ak L) H H'/\id=H.ak:=by
 obtain⟨rfl,aL,bk,cG,eL,cu⟩:=aA.pM aP;obtain⟨a,b⟩:=h.XE (H':=H') aL eL cu (by omega) (fun f l x=>.inl (by rw[<-bk];exact x)) (fun f l _ x=>by rw[bk];exact x) (fun c e f z s q=>by rw[q] at ar;simp[kg] at ar) aw ap;exact⟨a,b,rfl⟩
theorem b9.QG(h:b9 P B w0 μ H w){id:Nat}{cells:List Value}{elem:TypeId}{sh:Bool}{o:Obj}{L:Loc}(aP:H.nl cells elem sh=some (id,H'))(aw:L.r=w.heap.size)
 (ap:∀f,km P (μ.put H.ak L) L (.row cells elem true f 0 sh) o):
 b9 P B w0 (μ.put H.ak L) H' (w.alloc o)/\Step μ (μ.put H.ak L) H H'/\id=H.ak:=by
 unfold aA.nl at aP;cases aD:H.wi with
 |none=>rw[aD] at aP;cases aP
 |some p=>
  obtain⟨f,H1⟩:=p;rw[aD] at aP;obtain⟨rfl,bm,a2,a3,a4,a5⟩:=aA.LG aD;obtain⟨rfl,aL,bk,cG,eL,cu⟩:=aA.pM aP
  obtain⟨x,y⟩:=h.XE (H':=H') (b:=.row cells elem true H.cn 0 sh) (o:=o) (L:=L) (by omega) (by rw[eL,a4]) (fun m=>by rw[cu,bm,a2]) (by omega)
   (fun f l av=>by
    rw[bk,a5] at av;split at av
    ·injection av with av;exact .inr ⟨av.symm,rfl⟩
    ·exact .inl av)
   (fun f l aD av=>by rw[bk,a5,an (by omega)];exact av)
   (fun c e f z s q=>by injection q with _ _ _ q;omega) aw (ap _)
  exact⟨x,y,bm⟩
theorem b9.write(h:b9 P B w0 μ H w){id:Nat}{L:Loc}{b':fg}{o':Obj}(bS:μ id=some L)(aq:H.bW<=id)(vS:H.mem.get id≠some .dead)
 (aL:H'.ak=H.ak)(bk:H'.cn=H.cn)(cG:H'.bW=H.bW)(DI:H'.mem.get id=some b')
 (b6:∀x,x≠id->H'.mem.get x=H.mem.get x\/(H'.mem.get x=some .dead/\(kg (H.mem.get x)=true\/H.mem.get x=some .dead)))
 (aeI:∀x bN,x≠id->μ x=some bN->bN.r=L.r->H'.mem.get x=some .dead)
 (NY:∀f l,H.bI.get f=some l->H'.bI.get f=some l\/∀x y,x∈l->y∈l->x≠y->H'.mem.get x=some .dead\/H'.mem.get y=some .dead)
 (GI:∀f l,H'.bI.get f=some l->H.bI.get f=some l\/(l=[id]/\kg (some b')=true))
 (d':∀c e f z s,b'=.row c e true f z s->∃cd bz hS c4,H.mem.get id=some (.row cd bz true f hS c4)/\cd.length=c.length)
 (Wq:kg (H.mem.get id)=true->kg (some b')=true)(ap:km P μ L b' o'):
 b9 P B w0 μ H' {w with heap:=w.heap.setIfInBounds L.r o'}/\Step μ μ H H':=by
 have rB:∀x,H.mem.get x=some .dead->H'.mem.get x=some .dead:=fun x U=>by
  have ca:x≠id:=fun e=>vS (e▸U);rcases b6 x ca with q|q
  ·rw[q,U]
  ·exact q.1
 have o0:∀x f,x0 H x f->H'.mem.get x=some .dead\/x0 H' x f:=fun x f U=>by
  obtain⟨c,e,z,s,q⟩:=U;by_cases iC:x=id
  ·subst iC;right
   have ar:=Wq (by rw[q];rfl);cases b' with
   |row c1 xg uC f1 fm s1=>
    simp only[kg] at ar;subst ar;obtain⟨cd,bz,hS,c4,du,_⟩:=d' c1 xg f1 fm s1 rfl;rw[q] at du;injection du with du;injection du with _ _ _ ani;subst ani
    exact⟨c1,xg,fm,s1,DI⟩
   |_=>simp[kg] at ar
  ·rcases b6 x iC with p|p
   ·right;exact⟨c,e,z,s,by rw[p];exact q⟩
   ·left;exact p.1
 have OH:L.r<w.heap.size:=by
  obtain⟨b,o,_,ar,_⟩:=h.fT id L bS;rcases ji L.r w.heap.size with dZ|dZ
  ·exact dZ
  ·rw[tg dZ] at ar;cases ar
 have KC:=h.new id L bS aq vS;have ec:∀r,({w with heap:=w.heap.setIfInBounds L.r o'}:World).heap[r]?=if r=L.r then some o' else w.heap[r]?:=fun r=>by
  show(w.heap.setIfInBounds L.r o')[r]?=_;rw[An];by_cases aw:L.r=r
  ·subst aw;simp[OH]
  ·rw[an aw,an (Ne.symm aw)]
 have fV:∀x c e f z s,H'.mem.get x=some (.row c e true f z s)->∃cd bz hS c4,H.mem.get x=some (.row cd bz true f hS c4)/\cd.length=c.length:=fun x c e f z s hm=>by
  by_cases iC:x=id
  ·subst iC;rw[DI] at hm;injection hm with hm
   exact d' c e f z s hm
  ·rcases b6 x iC with q|q
   ·rw[q] at hm;exact⟨c,e,z,s,hm,rfl⟩
   ·rw[q.1] at hm;cases hm
 refine⟨⟨⟨h.below.os,h.below.tape,h.below.output,?_,?_⟩,?_,?_,?_,?_,?_,?_,?_,?_,?_,?_,?_⟩,⟨Ext.refl _,by omega,cG,?_⟩⟩
 ·show w0.heap.size<=(w.heap.setIfInBounds L.r o').size;rw[Jw];exact h.below.size
 ·intro k aO;rw[ec,an (fun e=>by subst e;exact KC aO)];exact h.below.block k aO
 ·intro k aO;show k<(w.heap.setIfInBounds L.r o').size;rw[Jw];exact h.n3 k aO
 ·intro x bN U;by_cases iC:x=id
  ·subst iC;rw[bS] at U;injection U with U;subst U
   exact⟨b',o',DI,by rw[ec];simp,ap⟩
  ·by_cases aw:bN.r=L.r
   ·exact⟨.dead,o',aeI x bN iC U aw,by rw[ec,aE aw],by simp[km]⟩
   ·obtain⟨b,o,dH,hP,ij⟩:=h.fT x bN U;rcases b6 x iC with q|q
    ·exact⟨b,o,by rw[q];exact dH,by rw[ec,an aw];exact hP,ij⟩
    ·exact⟨.dead,o,q.1,by rw[ec,an aw];exact hP,by cases o<;>simp[km]⟩
 ·intro x y eN gv eZ U ai oj;rcases h.sep x y eN gv eZ U ai oj with d|d|⟨f,l,q,du,av,m1,m2⟩
  ·exact .inl (rB x d)
  ·exact .inr (.inl (rB y d))
  ·rcases o0 x f q with d|q
   ·exact .inl d
   ·rcases o0 y f du with d|du
    ·exact .inr (.inl d)
    ·rcases NY f l av with c6|bx
     ·exact .inr (.inr ⟨f,l,q,du,c6,m1,m2⟩)
     ·rcases bx x y m1 m2 eZ with d|d
      ·exact .inl d
      ·exact .inr (.inl d)
 ·intro x bN U;rw[aL];exact h.lt x bN U
 ·intro x bN U e5;rw[cG] at e5;exact h.own x bN U e5
 ·intro x bN U e5 dM;rw[cG] at e5;exact h.new x bN U e5 fun q=>dM (rB x q)
 ·intro g c e o f z s qn hm;rw[cG] at qn;have ca:g≠id:=by omega
  rcases b6 g ca with q|q
  ·rw[q] at hm;exact h.tO g c e o f z s qn hm
  ·rw[q.1] at hm;cases hm
 ·rw[cG,aL];exact h.kO
 ·intro x c e f z s hm;rw[bk];by_cases iC:x=id
  ·subst iC;rw[DI] at hm;injection hm with hm
   obtain⟨cd,bz,hS,c4,du,_⟩:=d' c e f z s hm;exact h.rm _ _ _ _ _ _ du
  ·rcases b6 x iC with q|q
   ·rw[q] at hm;exact h.rm x c e f z s hm
   ·rw[q.1] at hm;cases hm
 ·intro f l x av U;rw[aL];rcases GI f l av with av|⟨rfl,ar⟩
  ·obtain⟨a,d⟩:=h.lb f l x av U;refine⟨a,?_⟩;rcases d with d|d
   ·by_cases iC:x=id
    ·subst iC;left;rw[DI];exact Wq d
    ·rcases b6 x iC with q|q
     ·left;rw[q];exact d
     ·right;exact q.1
   ·right;exact rB x d
  ·simp at U;subst U;exact⟨h.lt _ _ bS,.inl (by rw[DI];exact ar)⟩
 ·intro f l av;rcases GI f l av with av|⟨rfl,_⟩
  ·refine(h.vA f l av).imp ?_;intro x y eZ c e f z s cd bz cP hS c4 q du;obtain⟨c1,xg,fm,s1,bb,a7⟩:=fV x c e f z s q;obtain⟨c2,ar9,z2,s2,b8,fl⟩:=fV y cd bz cP hS c4 du;have:=eZ _ _ _ _ _ _ _ _ _ _ bb b8;omega
  ·exact SL _ _
 ·intro x U jw;refine⟨jw,fun ar=>?_⟩;have iC:x≠id:=fun e=>by subst e;rw[bS] at jw;cases jw
  rcases b6 x iC with q|q
  ·exact q
  ·rcases q.2 with r|r
   ·rw[ar] at r;cases r
   ·rw[q.1,r]
theorem b9.kill(h:b9 P B w0 μ H w)(aL:H'.ak=H.ak)(bk:H'.cn=H.cn)(cG:H'.bW=H.bW)
 (b6:∀x,H'.mem.get x=H.mem.get x\/(H'.mem.get x=some .dead/\(kg (H.mem.get x)=true\/H.mem.get x=some .dead)))
 (NY:∀f l,H.bI.get f=some l->∃l',H'.bI.get f=some l'/\l'.Sublist l/\∀x,x∈l->x∉l'->H'.mem.get x=some .dead)
 (GI:∀f l',H'.bI.get f=some l'->∃l,H.bI.get f=some l/\l'.Sublist l):
 b9 P B w0 μ H' w/\Step μ μ H H':=by
 have rB:∀x,H.mem.get x=some .dead->H'.mem.get x=some .dead:=fun x U=>by
  rcases b6 x with q|q
  ·rw[q,U]
  ·exact q.1
 have o0:∀x f,x0 H x f->H'.mem.get x=some .dead\/x0 H' x f:=fun x f U=>by
  obtain⟨c,e,z,s,q⟩:=U;rcases b6 x with p|p
  ·right;exact⟨c,e,z,s,by rw[p];exact q⟩
  ·left;exact p.1
 have fV:∀x c e f z s,H'.mem.get x=some (.row c e true f z s)->H.mem.get x=some (.row c e true f z s):=fun x c e f z s hm=>by
  rcases b6 x with q|q
  ·rw[q] at hm;exact hm
  ·rw[q.1] at hm;cases hm
 refine⟨⟨h.below,h.n3,?_,?_,?_,?_,?_,?_,?_,?_,?_,?_⟩,⟨Ext.refl _,by omega,cG,?_⟩⟩
 ·intro x bN U;obtain⟨b,o,dH,hP,ij⟩:=h.fT x bN U;rcases b6 x with q|q
  ·exact⟨b,o,by rw[q];exact dH,hP,ij⟩
  ·exact⟨.dead,o,q.1,hP,by cases o<;>simp[km]⟩
 ·intro x y eN gv eZ U ai oj;rcases h.sep x y eN gv eZ U ai oj with d|d|⟨f,l,q,du,av,m1,m2⟩
  ·exact .inl (rB x d)
  ·exact .inr (.inl (rB y d))
  ·rcases o0 x f q with d|q
   ·exact .inl d
   ·rcases o0 y f du with d|du
    ·exact .inr (.inl d)
    ·obtain⟨l',aa,_,aF⟩:=NY f l av;by_cases kS:x∈l'
     ·by_cases Ia:y∈l'
      ·exact .inr (.inr ⟨f,l',q,du,aa,kS,Ia⟩)
      ·exact .inr (.inl (aF y m2 Ia))
     ·exact .inl (aF x m1 kS)
 ·intro x bN U;rw[aL];exact h.lt x bN U
 ·intro x bN U e5;rw[cG] at e5;exact h.own x bN U e5
 ·intro x bN U e5 dM;rw[cG] at e5;exact h.new x bN U e5 fun q=>dM (rB x q)
 ·intro g c e o f z s qn hm;rw[cG] at qn;rcases b6 g with q|q
  ·rw[q] at hm;exact h.tO g c e o f z s qn hm
  ·rw[q.1] at hm;cases hm
 ·rw[cG,aL];exact h.kO
 ·intro x c e f z s hm;rw[bk];exact h.rm x c e f z s (fV x c e f z s hm)
 ·intro f l x av U;rw[aL];obtain⟨l0,aa,ae⟩:=GI f l av;obtain⟨a,d⟩:=h.lb f l0 x aa (ae.mem U);refine⟨a,?_⟩;rcases b6 x with q|q
  ·rw[q];exact d
  ·right;exact q.1
 ·intro f l av;obtain⟨l0,aa,ae⟩:=GI f l av;refine((h.vA f l0 aa).sublist ae).imp ?_;intro x y eZ c e f z s cd bz cP hS c4 q du;exact eZ _ _ _ _ _ _ _ _ _ _ (fV _ _ _ _ _ _ q) (fV _ _ _ _ _ _ du)
 ·intro x U jw;refine⟨jw,fun ar=>?_⟩;rcases b6 x with q|q
  ·exact q
  ·rcases q.2 with r|r
   ·rw[ar] at r;cases r
   ·rw[q.1,r]
theorem Zz(h:b9 P B w0 μ H w){f:Nat}{l l0:List Nat}{cells:List Value}{elem:TypeId}{eA:Nat}{sh:Bool}(av:H.bI.get f=some l0)(kz:l.Sublist l0)
 (cu:∀m,H'.mem.get m=if m=H.ak then some (.row cells elem true f eA sh) else H.mem.get m)
 (jr:∀m,H'.bI.get m=if m=f then some (H.ak::l) else H.bI.get m)(xT:∀y∈l,∀c e f z s,H.mem.get y=some (.row c e true f z s)->c.length<=cells.length):
 ∀cP l',H'.bI.get cP=some l'->M4 H' l':=by
 have Ye:∀cP l',H.bI.get cP=some l'->M4 H' l':=fun cP l' c6=>by
  refine(h.vA cP l' c6).imp_of_mem ?_;intro x y U ai eZ c e f1 z s cd bz f2 hS c4 q du;have e5:=(h.lb cP l' x c6 U).1;have hd:=(h.lb cP l' y c6 ai).1;rw[cu,an (by omega)] at q du;exact eZ _ _ _ _ _ _ _ _ _ _ q du
 intro cP l' c6;rw[jr] at c6;split at c6
 ·injection c6 with c6;subst c6
  refine SK.2 ⟨fun y ai c e f1 z s cd bz f2 hS c4 q du=>?_,(Ye f l0 av).sublist kz⟩;have hd:=(h.lb f l0 y av (kz.mem ai)).1;rw[cu,aE rfl] at q;rw[cu,an (by omega)] at du;injection q with q;injection q with q;subst q
  exact xT y ai _ _ _ _ _ du
 ·exact Ye cP l' c6
theorem b9.YN(h:b9 P B w0 μ H w){f:Nat}{l l0:List Nat}{cells:List Value}{elem:TypeId}{eA:Nat}{sh:Bool}{o:Obj}{L:Loc}(av:H.bI.get f=some l0)(kz:l.Sublist l0)(HR:∀x,x∈l0->x∉l->H.mem.get x=some .dead)(aD:f<H.cn)
 (aL:H'.ak=H.ak+1)(bk:H'.cn=H.cn)(eL:H'.bW=H.bW)(cu:∀m,H'.mem.get m=if m=H.ak then some (.row cells elem true f eA sh) else H.mem.get m)
 (jr:∀m,H'.bI.get m=if m=f then some (H.ak::l) else H.bI.get m)(xT:∀y∈l,∀c e f z s,H.mem.get y=some (.row c e true f z s)->c.length<=cells.length)
 (aw:L.r=w.heap.size)(ap:km P (μ.put H.ak L) L (.row cells elem true f eA sh) o):
 b9 P B w0 (μ.put H.ak L) H' (w.alloc o)/\Step μ (μ.put H.ak L) H H':=by
 have hN:=h.xk L;have ev:∀x bN,(μ.put H.ak L) x=some bN->x≠H.ak->μ x=some bN:=fun x bN a b=>by rwa [bY.uG _ _ b] at a
 have cV:∀x bN,μ x=some bN->bN.r<w.heap.size:=fun x bN U=>by
  obtain⟨b',o',_,ar,_⟩:=h.fT x bN U;rcases ji bN.r w.heap.size with dZ|dZ
  ·exact dZ
  ·rw[tg dZ] at ar;cases ar
 refine⟨⟨h.below.alloc h.n3 o,?_,?_,?_,?_,?_,?_,?_,?_,?_,?_,?_⟩,⟨hN,by omega,eL,?_⟩⟩
 ·intro k aO;have:=h.n3 k aO;show k<(w.heap.push o).size;rw[Sl];omega
 ·intro x bN U;by_cases di:x=H.ak
  ·subst di;rw[bY.kW] at U;injection U with U;subst U
   exact⟨_,o,by rw[cu];simp,by rw[Eb,aw];simp,ap⟩
  ·have e5:=ev x bN U di;obtain⟨b',o',aa,ae,aF⟩:=h.fT x bN e5;exact⟨b',o',by rw[cu,an di];exact aa,by rw[Eb,an (by have:=cV x bN e5;omega)];exact ae,aF.mono hN⟩
 ·intro x y eN gv eZ U ai oj;by_cases di:x=H.ak
  ·subst di;rw[bY.kW] at U;injection U with U;subst U
   have:=cV y gv (ev y gv ai (Ne.symm eZ));omega
  ·by_cases kT:y=H.ak
   ·subst kT;rw[bY.kW] at ai;injection ai with ai;subst ai
    have:=cV x eN (ev x eN U di);omega
   ·rcases h.sep x y eN gv eZ (ev x eN U di) (ev y gv ai kT) oj with d|d|⟨cP,l',⟨c,e,z,s,q⟩,⟨cd,bz,hS,c4,du⟩,c6,m1,m2⟩
    ·exact .inl (by rw[cu,an di];exact d)
    ·exact .inr (.inl (by rw[cu,an kT];exact d))
    ·by_cases pB:cP=f
     ·subst pB;rw[av] at c6;injection c6 with c6;subst c6
      by_cases kA:x∈l
      ·by_cases H9:y∈l
       ·exact .inr (.inr ⟨cP,H.ak::l,⟨c,e,z,s,by rw[cu,an di];exact q⟩,⟨cd,bz,hS,c4,by rw[cu,an kT];exact du⟩,by rw[jr];simp,by simp[kA],by simp[H9]⟩)
       ·exact .inr (.inl (by rw[cu,an kT];exact HR y m2 H9))
      ·exact .inl (by rw[cu,an di];exact HR x m1 kA)
     ·exact .inr (.inr ⟨cP,l',⟨c,e,z,s,by rw[cu,an di];exact q⟩,⟨cd,bz,hS,c4,by rw[cu,an kT];exact du⟩,by rw[jr,an pB];exact c6,m1,m2⟩)
 ·intro x bN U;by_cases di:x=H.ak
  ·omega
  ·have:=h.lt x bN (ev x bN U di);omega
 ·intro x bN U aq;rw[eL] at aq;have di:x≠H.ak:=by have:=h.kO;omega
  exact h.own x bN (ev x bN U di) aq
 ·intro x bN U aq dM;rw[eL] at aq;by_cases di:x=H.ak
  ·subst di;rw[bY.kW] at U;injection U with U;subst U
   rw[aw];exact fun q=>FL _ (h.n3 _ q)
  ·exact h.new x bN (ev x bN U di) aq (by rw[cu,an di] at dM;exact dM)
 ·intro g c e o f z s aq hm;rw[eL] at aq;have fE:g≠H.ak:=by have:=h.kO;omega
  rw[cu,an fE] at hm;obtain⟨bN,bS⟩:=h.tO g c e o f z s aq hm;exact⟨bN,hN _ _ bS⟩
 ·rw[eL,aL];have:=h.kO;omega
 ·intro x c e cP z s hm;rw[cu] at hm;split at hm
  ·injection hm with hm;injection hm with _ _ _ hm;omega
  ·have:=h.rm x c e cP z s hm;omega
 ·intro cP l' x c6 U;rw[jr] at c6;split at c6
  ·injection c6 with c6;subst c6
   simp at U;rcases U with U|U
   ·subst U;exact⟨by omega,.inl (by rw[cu];simp[kg])⟩
   ·obtain⟨a,d⟩:=h.lb f l0 x av (kz.mem U);exact⟨by omega,by rw[cu,an (by omega)];exact d⟩
  ·obtain⟨a,d⟩:=h.lb cP l' x c6 U;exact⟨by omega,by rw[cu,an (by omega)];exact d⟩
 ·exact Zz h av kz cu jr xT
 ·intro x U jw;have di:x≠H.ak:=by omega
  exact⟨by rw[bY.uG _ _ di];exact jw,fun _=>by rw[cu,an di]⟩
theorem b9.am7(h:b9 P B w0 μ H w){f id:Nat}{l l0:List Nat}{cells:List Value}{elem:TypeId}{eA:Nat}{sh:Bool}{o o':Obj}{L:Loc}(av:H.bI.get f=some l0)(kz:l.Sublist l0)(HR:∀x,x∈l0->x∉l->H.mem.get x=some .dead)(aD:f<H.cn)(bS:μ id=some L)(aq:H.bW<=id)(KC:¬B L.r)
 (aL:H'.ak=H.ak+1)(bk:H'.cn=H.cn)(eL:H'.bW=H.bW)(cu:∀m,H'.mem.get m=if m=H.ak then some (.row cells elem true f eA sh) else H.mem.get m)
 (jr:∀m,H'.bI.get m=if m=f then some (H.ak::l) else H.bI.get m)(xT:∀y∈l,∀c e f z s,H.mem.get y=some (.row c e true f z s)->c.length<=cells.length)
 (oh:∀y bN,μ y=some bN->bN.r=L.r->H.mem.get y=some .dead\/(x0 H y f/\y∈l/\∃b,H.mem.get y=some b/\km P μ bN b o'))
 (ap:km P μ L (.row cells elem true f eA sh) o'):
 b9 P B w0 (μ.put H.ak L) H' {w with heap:=w.heap.setIfInBounds L.r o'}/\Step μ (μ.put H.ak L) H H':=by
 have _:=o;have hN:=h.xk L;have ev:∀x bN,(μ.put H.ak L) x=some bN->x≠H.ak->μ x=some bN:=fun x bN a b=>by rwa [bY.uG _ _ b] at a
 have OH:L.r<w.heap.size:=by
  obtain⟨b,o,_,ar,_⟩:=h.fT id L bS;rcases ji L.r w.heap.size with dZ|dZ
  ·exact dZ
  ·rw[tg dZ] at ar;cases ar
 have ec:∀r,({w with heap:=w.heap.setIfInBounds L.r o'}:World).heap[r]?=if r=L.r then some o' else w.heap[r]?:=fun r=>by
  show(w.heap.setIfInBounds L.r o')[r]?=_;rw[An];by_cases aw:L.r=r
  ·subst aw;simp[OH]
  ·rw[an aw,an (Ne.symm aw)]
 have qp:x0 H' H.ak f:=⟨cells,elem,eA,sh,by rw[cu];simp⟩;have ah4:H'.bI.get f=some (H.ak::l):=by rw[jr];simp
 have side:∀y gv,y≠H.ak->μ y=some gv->gv.r=L.r->Sh H' H.ak y:=fun y gv kT ai oj=>by
  rcases oh y gv ai oj with d|⟨⟨c,e,z,s,q⟩,m,_⟩
  ·exact .inr (.inl (by rw[cu,an kT];exact d))
  ·exact .inr (.inr ⟨f,_,qp,⟨c,e,z,s,by rw[cu,an kT];exact q⟩,ah4,by simp,by simp[m]⟩)
 refine⟨⟨⟨h.below.os,h.below.tape,h.below.output,?_,?_⟩,?_,?_,?_,?_,?_,?_,?_,?_,?_,?_,?_⟩,⟨hN,by omega,eL,?_⟩⟩
 ·show w0.heap.size<=(w.heap.setIfInBounds L.r o').size;rw[Jw];exact h.below.size
 ·intro k aO;rw[ec,an (fun e=>by subst e;exact KC aO)];exact h.below.block k aO
 ·intro k aO;show k<(w.heap.setIfInBounds L.r o').size;rw[Jw];exact h.n3 k aO
 ·intro x bN U;by_cases di:x=H.ak
  ·subst di;rw[bY.kW] at U;injection U with U;subst U
   exact⟨_,o',by rw[cu];simp,by rw[ec];simp,ap.mono hN⟩
  ·have e5:=ev x bN U di;by_cases aw:bN.r=L.r
   ·rcases oh x bN e5 aw with d|⟨_,_,b,bb,a7⟩
    ·exact⟨.dead,o',by rw[cu,an di];exact d,by rw[ec,aE aw],by cases o'<;>simp[km]⟩
    ·exact⟨b,o',by rw[cu,an di];exact bb,by rw[ec,aE aw],a7.mono hN⟩
   ·obtain⟨b',uC,aa,ae,aF⟩:=h.fT x bN e5;exact⟨b',uC,by rw[cu,an di];exact aa,by rw[ec,an aw];exact ae,aF.mono hN⟩
 ·intro x y eN gv eZ U ai oj;by_cases di:x=H.ak
  ·subst di;rw[bY.kW] at U;injection U with U;subst U
   exact side y gv (Ne.symm eZ) (ev y gv ai (Ne.symm eZ)) oj.symm
  ·by_cases kT:y=H.ak
   ·subst kT;rw[bY.kW] at ai;injection ai with ai;subst ai
    rcases side x eN di (ev x eN U di) oj with d|d|⟨cP,l',q,du,c6,m1,m2⟩
    ·exact .inr (.inl d)
    ·exact .inl d
    ·exact .inr (.inr ⟨cP,l',du,q,c6,m2,m1⟩)
   ·rcases h.sep x y eN gv eZ (ev x eN U di) (ev y gv ai kT) oj with d|d|⟨cP,l',⟨c,e,z,s,q⟩,⟨cd,bz,hS,c4,du⟩,c6,m1,m2⟩
    ·exact .inl (by rw[cu,an di];exact d)
    ·exact .inr (.inl (by rw[cu,an kT];exact d))
    ·by_cases pB:cP=f
     ·subst pB;rw[av] at c6;injection c6 with c6;subst c6
      by_cases kA:x∈l
      ·by_cases H9:y∈l
       ·exact .inr (.inr ⟨cP,H.ak::l,⟨c,e,z,s,by rw[cu,an di];exact q⟩,⟨cd,bz,hS,c4,by rw[cu,an kT];exact du⟩,by rw[jr];simp,by simp[kA],by simp[H9]⟩)
       ·exact .inr (.inl (by rw[cu,an kT];exact HR y m2 H9))
      ·exact .inl (by rw[cu,an di];exact HR x m1 kA)
     ·exact .inr (.inr ⟨cP,l',⟨c,e,z,s,by rw[cu,an di];exact q⟩,⟨cd,bz,hS,c4,by rw[cu,an kT];exact du⟩,by rw[jr,an pB];exact c6,m1,m2⟩)
 ·intro x bN U;by_cases di:x=H.ak
  ·omega
  ·have:=h.lt x bN (ev x bN U di);omega
 ·intro x bN U aq;rw[eL] at aq;have di:x≠H.ak:=by have:=h.kO;omega
  exact h.own x bN (ev x bN U di) aq
 ·intro x bN U aq dM;rw[eL] at aq;by_cases di:x=H.ak
  ·subst di;rw[bY.kW] at U;injection U with U;subst U
   exact KC
  ·exact h.new x bN (ev x bN U di) aq (by rw[cu,an di] at dM;exact dM)
 ·intro g c e o f z s aq hm;rw[eL] at aq;have fE:g≠H.ak:=by have:=h.kO;omega
  rw[cu,an fE] at hm;obtain⟨bN,bS⟩:=h.tO g c e o f z s aq hm;exact⟨bN,hN _ _ bS⟩
 ·rw[eL,aL];have:=h.kO;omega
 ·intro x c e cP z s hm;rw[cu] at hm;split at hm
  ·injection hm with hm;injection hm with _ _ _ hm;omega
  ·have:=h.rm x c e cP z s hm;omega
 ·intro cP l' x c6 U;rw[jr] at c6;split at c6
  ·injection c6 with c6;subst c6
   simp at U;rcases U with U|U
   ·subst U;exact⟨by omega,.inl (by rw[cu];simp[kg])⟩
   ·obtain⟨a,d⟩:=h.lb f l0 x av (kz.mem U);exact⟨by omega,by rw[cu,an (by omega)];exact d⟩
  ·obtain⟨a,d⟩:=h.lb cP l' x c6 U;exact⟨by omega,by rw[cu,an (by omega)];exact d⟩
 ·exact Zz h av kz cu jr xT
 ·intro x U jw;have di:x≠H.ak:=by omega
  exact⟨by rw[bY.uG _ _ di];exact jw,fun _=>by rw[cu,an di]⟩
theorem Il{o9:Nat}:∀{l:List Nat} {H H':aA},sX H o9 l=some H'->H'.ak=H.ak/\H'.bI=H.bI/\H'.cn=H.cn/\H'.bW=H.bW/\
 (∀x,x∈l->x≠o9->H'.mem.get x=some .dead)/\(∀x,x∉l\/x=o9->H'.mem.get x=H.mem.get x):=by
 intro l;induction l with
 |nil=>intro H H' h;simp[sX] at h;subst h;exact⟨rfl,rfl,rfl,rfl,fun x U=>by simp at U,fun x _=>rfl⟩
 |cons y l aI=>
  intro H H' h;simp only[sX] at h;cases ai:Nat.beq y o9 with
  |true=>
   rw[ai] at h;have Ib:=eO ai;obtain⟨bm,a2,a3,a4,a5,da⟩:=aI (by simpa using h);refine⟨bm,a2,a3,a4,fun x U ca=>?_,fun x U=>?_⟩
   ·simp at U;rcases U with rfl|U
    ·exact absurd Ib ca
    ·exact a5 x U ca
   ·refine da x ?_;rcases U with U|U
    ·left;simp at U;exact U.2
    ·right;exact U
  |false=>
   rw[ai] at h;have Ib:y≠o9:=fun e=>by subst e;simp at ai
   simp only[dT] at h;cases hu:H.upd y .dead with
   |none=>rw[hu] at h;cases h
   |some H1=>
    rw[hu] at h;obtain⟨b1,b2,b3,b4,ve⟩:=aA.wB hu;obtain⟨bm,a2,a3,a4,a5,da⟩:=aI h;refine⟨by omega,by rw[a2,b2],by omega,by omega,fun x U ca=>?_,fun x U=>?_⟩
    ·by_cases kS:x∈l
     ·exact a5 x kS ca
     ·have eZ:x=y:=by simp at U;rcases U with q|q;exact q;exact absurd q kS
      rw[da x (.inl kS),ve,aE eZ]
    ·have eZ:x≠y:=by
      rcases U with q|q
      ·simp at q;exact q.1
      ·rw[q];exact Ne.symm Ib
     have:x∉l\/x=o9:=by
      rcases U with q|q
      ·left;simp at q;exact q.2
      ·right;exact q
     rw[da x this,ve,an eZ]
theorem adD{id:Nat}:∀{l l':List Nat} {H H':aA},y1 H id l=some (l',H')->H'.ak=H.ak/\H'.bI=H.bI/\H'.cn=H.cn/\H'.bW=H.bW/\l'.Sublist l/\id∈l'/\H'.mem.get id=H.mem.get id/\
 (∀x,x∈l->x∉l'->H'.mem.get x=some .dead)/\(∀x,H'.mem.get x=H.mem.get x\/(H'.mem.get x=some .dead/\x∈l))/\(∃pre,l=pre++l'/\l'=id::l'.tail):=by
 intro l;induction l with
 |nil=>intro l' H H' h;simp[y1] at h
 |cons y l aI=>
  intro l' H H' h;simp only[y1] at h;cases ai:Nat.beq y id with
  |true=>
   rw[ai,b7] at h;simp only[cp,dB] at h;obtain⟨rfl,rfl⟩:=h;have:=eO ai;subst this;exact⟨rfl,rfl,rfl,rfl,bu _,by simp,rfl,fun x a b=>absurd a b,fun x=>.inl rfl,[],rfl,rfl⟩
  |false=>
   rw[ai,dT] at h;have Ib:y≠id:=fun e=>by subst e;simp at ai
   cases hu:H.upd y .dead with
   |none=>rw[hu] at h;cases h
   |some H1=>
    rw[hu] at h;obtain⟨b1,b2,b3,b4,ve⟩:=aA.wB hu;obtain⟨bm,a2,a3,a4,a5,da,cT,hr,a9,pre,si,kL⟩:=aI h;refine⟨by omega,by rw[a2,b2],by omega,by omega,a5.cons _,da,by rw[cT,ve,an (Ne.symm Ib)],fun x U kS=>?_,fun x=>?_,y::pre,by rw[si];rfl,kL⟩
    ·by_cases e5:x∈l
     ·exact hr x e5 kS
     ·have eZ:x=y:=by simp at U;rcases U with q|q;exact q;exact absurd q e5
      rcases a9 x with q|q
      ·rw[q,ve,aE eZ]
      ·exact q.1
    ·rcases a9 x with q|q
     ·rw[ve] at q;split at q
      ·rename_i eZ;exact .inr ⟨q,by simp[eZ]⟩
      ·exact .inl q
     ·exact .inr ⟨q.1,by simp[q.2]⟩
end
end
end Go.Cre

/- A part of the proof of TableRounds. -/
import Derived.Test.YtfdhclnfkafebaaGreatDoorCab
import Derived.Laws.Append
import Derived.Laws.AppendOwn
import Derived.Laws.IdiomCopy
set_option linter.unusedVariables false
set_option linter.unusedSimpArgs false
namespace Go.Cre
noncomputable section
open Go.RowKit
def NW(N ey:Nat)(sh:Bool)(f:Nat×Nat):Prop:=(∀off,off<N->f.1<=off->off<f.2->off<ey)/\(sh=false->f.1=f.2\/f.2<=ey)
inductive vW (μ:b5):List MapEntry->List MapEntry->Prop
 |nil:vW μ [] []
 |cons (e b3:MapEntry) (es nq:List MapEntry):b3.key=e.key->plain e.key=true->bu μ e.val b3.val->vW μ es nq->vW μ (e::es) (b3::nq)
def zE(μ:b5)(es nq:List MapEntry):Prop:=∃l,l.Perm nq/\vW μ es l
theorem vW.mono{μ bw:b5}{l m:List MapEntry}(h:vW μ l m)(e:Ext μ bw):vW bw l m:=by
 induction h with
 |nil=>exact .nil
 |cons a b es nq ad af aV _ aZ=>exact .cons a b es nq ad af (aV.mono e) aZ
theorem vW.length{μ:b5}{l m:List MapEntry}(h:vW μ l m):l.length=m.length:=by
 induction h with
 |nil=>rfl
 |cons a b es nq ad af aV _ aZ=>simp[aZ]
theorem zE.length{μ:b5}{l m:List MapEntry}(h:zE μ l m):l.length=m.length:=by
 obtain⟨k,ad,af⟩:=h;rw[af.length,ad.length_eq]
theorem zE.nil(μ:b5):zE μ [] []:=⟨[],.refl _,.nil⟩
def kq(μ:b5)(T:a4 Value)(n:Nat)(tmps:Array Value):Prop:=n<=tmps.size/\∀t v,T.get t=some v->bu μ v (tmps.getD t undef)
def j5(P:Program)(μ:b5)(L:Loc):fs->Obj->Prop
 |.row cells elem opn _ ey sh,.cells c e f=>e=elem/\c.size=L.N/\P.cellsOf elem=L.sz/\cells.length<=L.N/\(opn=false->cells.length=L.N)/\
  (∀(i:Nat) v v',cells[i]?=some v->c[i]?=some v'->bu μ v v')/\NW L.N ey sh f
 |.map es _,.map nq _=>zE μ es nq.toList
 |.loop l,.loop l'=>l'.state=l.state/\l'.pending=l.pending/\l'.params.toList=l.params/\l'.assign=l.assign/\l'.body=l.body/\kq μ l.T l.n l'.tmps/\∃b8,μ l.hR=some b8/\l'.defers=b8.r
 |.hR ds,.deferred fb=>fb=ds/\(ds=some []\/ds=none)
 |.dead,_=>True
 |_,_=>False
theorem kq.mono{μ bw:b5}{T:a4 Value}{n:Nat}{tmps:Array Value}(h:kq μ T n tmps)(e:Ext μ bw):kq bw T n tmps:=⟨h.1,fun t v x=>(h.2 t v x).mono e⟩
theorem j5.mono{P:Program}{μ bw:b5}{L:Loc}{b:fs}{o:Obj}(h:j5 P μ L b o)(e:Ext μ bw):j5 P bw L b o:=by
 cases b with
 |row cells elem opn bP ey sh=>
  cases o with
  |cells c b3 f=>obtain⟨ad,af,aV,bq,fL,hv,nt⟩:=h;exact⟨ad,af,aV,bq,fL,fun i v v' a b=>(hv i v v' a b).mono e,nt⟩
  |_=>exact h
 |map es clock=>
  cases o with
  |map nq Jp=>obtain⟨l,ad,af⟩:=h;exact⟨l,ad,af.mono e⟩
  |_=>exact h
 |loop l=>
  cases o with
  |loop l'=>obtain⟨ad,af,aV,bq,fL,hv,b8,nt,CI⟩:=h;exact⟨ad,af,aV,bq,fL,hv.mono e,b8,e _ _ nt,CI⟩
  |_=>exact h
 |hR ds=>
  cases o with
  |deferred fb=>exact h
  |_=>exact h
 |dead=>cases o<;>trivial
def kw:Option fs->Bool
 |some (.row _ _ opn _ _ _)=>opn
 |_=>false
def xj(H:aw)(id f:Nat):Prop:=∃c e z s,H.mem.get id=some (.row c e true f z s)
def Sy(H:aw)(id mg:Nat):Prop:=
 H.mem.get id=some .dead\/H.mem.get mg=some .dead\/∃f l,xj H id f/\xj H mg f/\H.bP.get f=some l/\id∈l/\mg∈l
def MA(H:aw)(l:List Nat):Prop:=
 l.Pairwise fun x y=>∀c e f z s c' b3 f' hq dC,H.mem.get x=some (.row c e true f z s)->H.mem.get y=some (.row c' b3 true f' hq dC)->c'.length<=c.length
structure Kept (B:Nat->Prop) (w bn:World):Prop where
 os:bn.os=w.os
 tape:bn.tape=w.tape
 output:bn.output=w.output
 size:w.heap.size<=bn.heap.size
 block:∀k,B k->bn.heap[k]?=w.heap[k]?
theorem Kept.refl(B:Nat->Prop)(w:World):Kept B w w:=⟨rfl,rfl,rfl,bX _,fun _ _=>rfl⟩
theorem Kept.trans{B:Nat->Prop}{a b c:World}(h:Kept B a b)(k:Kept B b c):Kept B a c:=
 ⟨k.os.trans h.os,k.tape.trans h.tape,k.output.trans h.output,cY h.size k.size,fun i ar=>(k.block i ar).trans (h.block i ar)⟩
theorem Kept.drew{B:Nat->Prop}{a w:World}(h:Kept B a w):Kept B a w.drew:=⟨h.os,h.tape,h.output,h.size,h.block⟩
theorem Kept.alloc{B:Nat->Prop}{a w:World}(h:Kept B a w)(e4:∀k,B k->k<w.heap.size)(o:Obj):Kept B a (w.alloc o):=
 h.trans ⟨rfl,rfl,rfl,by simp,fun k hk=>Below.heap_alloc _ _ _ (e4 k hk)⟩
theorem Kept.below{n:Nat}{w bn:World}(h:Kept (fun k=>k<n) w bn):Below n w bn:=⟨h.os,h.tape,h.output,h.size,h.block⟩
theorem Kept.alI{n:Nat}{B:Nat->Prop}{w bn:World}(h:Below n w bn)(e4:∀k,B k->k<n):Kept B w bn:=⟨h.os,h.tape,h.output,h.size,fun k hk=>h.block k (e4 k hk)⟩
structure cd (P:Program) (B:Nat->Prop) (w0:World) (μ:b5) (H:aw) (w:World):Prop where
 below:Kept B w0 w
 nT:∀k,B k->k<w.heap.size
 gf:∀id L,μ id=some L->∃b o,H.mem.get id=some b/\w.heap[L.r]?=some o/\j5 P μ L b o
 sep:∀id mg L b8,id≠mg->μ id=some L->μ mg=some b8->L.r=b8.r->Sy H id mg
 lt:∀id L,μ id=some L->id<H.aG
 own:∀id L,μ id=some L->id<H.bU->L.r=id
 new:∀id L,μ id=some L->H.bU<=id->H.mem.get id≠some .dead->¬B L.r
 tv:∀g c e o f z s,g<H.bU->H.mem.get g=some (.row c e o f z s)->∃L,μ g=some L
 kI:H.bU<=H.aG
 q4:∀id c e f z s,H.mem.get id=some (.row c e true f z s)->f<H.cF
 lq:∀f l x,H.bP.get f=some l->x∈l->x<H.aG/\(kw (H.mem.get x)=true\/H.mem.get x=some .dead)
 u0:∀f l,H.bP.get f=some l->MA H l
structure Step (μ bw:b5) (H H':aw):Prop where
 ext:Ext μ bw
 aG:H.aG<=H'.aG
 bU:H'.bU=H.bU
 gE:∀id,id<H.aG->μ id=none->bw id=none/\(kw (H.mem.get id)=false->H'.mem.get id=H.mem.get id)
theorem Step.refl(μ:b5)(H:aw):Step μ μ H H:=⟨Ext.refl μ,bX _,rfl,fun _ _ h=>⟨h,fun _=>rfl⟩⟩
theorem Step.trans{μ fm jO:b5}{H H1 cz:aw}(h:Step μ fm H H1)(k:Step fm jO H1 cz):Step μ jO H cz:=
 ⟨h.ext.trans k.ext,cY h.aG k.aG,k.bU.trans h.bU,fun id ar aE=>by
  obtain⟨a,b⟩:=h.gE id ar aE;obtain⟨c,d⟩:=k.gE id (iJ ar h.aG) a;exact⟨c,fun aj=>by rw[d (by rw[b aj];exact aj),b aj]⟩⟩
theorem aw.xX{H H':aw}{id:Nat}{b:fs}(h:H.upd id b=some H'):H'.aG=H.aG/\H'.bP=H.bP/\H'.cF=H.cF/\H'.bU=H.bU/\∀m,H'.mem.get m=if m=id then some b else H.mem.get m:=by
 obtain⟨mem,aG,bP,cF,bU⟩:=H;simp only[aw.upd] at h;cases ap:a4.put b mem id with
 |none=>rw[ap] at h;cases h
 |some m=>rw[ap] at h;injection h with h;subst h;exact⟨rfl,rfl,rfl,rfl,a4.get_put ap⟩
theorem aw.qC{H H':aw}{id:Nat}{b:fs}(h:H.new b=some (id,H')):id=H.aG/\H'.aG=H.aG+1/\H'.bP=H.bP/\H'.cF=H.cF/\H'.bU=H.bU/\∀m,H'.mem.get m=if m=H.aG then some b else H.mem.get m:=by
 obtain⟨mem,aG,bP,cF,bU⟩:=H;simp only[aw.new] at h;cases ap:a4.put b mem aG with
 |none=>rw[ap] at h;cases h
 |some m=>
  rw[ap] at h;simp only[aw.QX,aw.Yb,cD,dK] at h;obtain⟨rfl,rfl⟩:=h;exact⟨rfl,rfl,rfl,rfl,rfl,a4.get_put ap⟩
theorem aw.D3{H H':aw}{f:Nat}{l:List Nat}(h:H.rF f l=some H'):H'.aG=H.aG/\H'.mem=H.mem/\H'.cF=H.cF/\H'.bU=H.bU/\∀m,H'.bP.get m=if m=f then some l else H.bP.get m:=by
 obtain⟨mem,aG,bP,cF,bU⟩:=H;simp only[aw.rF] at h;cases ap:a4.put l bP f with
 |none=>rw[ap] at h;cases h
 |some m=>rw[ap] at h;injection h with h;subst h;exact⟨rfl,rfl,rfl,rfl,a4.get_put ap⟩
theorem aw.K0{H H':aw}{f:Nat}(h:H.vE=some (f,H')):f=H.cF/\H'.aG=H.aG/\H'.mem=H.mem/\H'.cF=H.cF+1/\H'.bU=H.bU/\∀m,H'.bP.get m=if m=H.cF then some [H.aG] else H.bP.get m:=by
 obtain⟨mem,aG,bP,cF,bU⟩:=H;simp only[aw.vE] at h;cases ap:a4.put [aG] bP cF with
 |none=>rw[ap] at h;cases h
 |some m=>
  rw[ap] at h;simp only[aw.QY,aw.Yc,cD,dK] at h;obtain⟨rfl,rfl⟩:=h;exact⟨rfl,rfl,rfl,rfl,rfl,a4.get_put ap⟩
def b5.put(μ:b5)(id:Nat)(L:Loc):b5:=fun x=>if x=id then some L else μ x
theorem b5.kh(μ:b5)(id:Nat)(L:Loc):μ.put id L id=some L:=by simp[b5.put]
theorem b5.ud(μ:b5){id x:Nat}(L:Loc)(h:x≠id):μ.put id L x=μ x:=by simp[b5.put,h]
section
variable {P:Program}{B:Nat->Prop}{w0 w:World}{μ:b5}{H H':aw}
theorem cd.Yg(h:cd P B w0 μ H w):μ H.aG=none:=by
 cases ab:μ H.aG with
 |none=>rfl
 |some L=>have:=h.lt _ _ ab;omega
theorem cd.uZ(h:cd P B w0 μ H w)(L:Loc):Ext μ (μ.put H.aG L):=fun id b8 ab=>by
 by_cases e:id=H.aG
 ·subst e;rw[h.Yg] at ab;cases ab
 ·rw[b5.ud _ _ e];exact ab
theorem cd.drew(h:cd P B w0 μ H w):cd P B w0 μ H w.drew:=
 ⟨h.below.drew,h.nT,h.gf,h.sep,h.lt,h.own,h.new,h.tv,h.kI,h.q4,h.lq,h.u0⟩
theorem cd.drawn(h:cd P B w0 μ H w)(n:Nat):cd P B w0 μ H {w with drawn:=n}:=
 ⟨⟨h.below.os,h.below.tape,h.below.output,h.below.size,h.below.block⟩,h.nT,h.gf,h.sep,h.lt,h.own,h.new,h.tv,h.kI,h.q4,h.lq,h.u0⟩
theorem CW(w:World)(o:Obj)(r:Nat):(w.alloc o).heap[r]?=if r=w.heap.size then some o else w.heap[r]?:=by
 show(w.heap.push o)[r]?=_;rw[Array.getElem?_push]
theorem cd.XQ(h:cd P B w0 μ H w){b:fs}{o:Obj}{L:Loc}(aC:H'.aG=H.aG+1)(ed:H'.bU=H.bU)(cH:∀m,H'.mem.get m=if m=H.aG then some b else H.mem.get m)
 (Pm:H.cF<=H'.cF)(oJ:∀f l,H'.bP.get f=some l->H.bP.get f=some l\/(l=[H.aG]/\kw (some b)=true))(ah3:∀f l,f<H.cF->H.bP.get f=some l->H'.bP.get f=some l)
 (aiF:∀c e f z s,b=.row c e true f z s->f<H'.cF)(av:L.r=w.heap.size)(ak:j5 P (μ.put H.aG L) L b o):
 cd P B w0 (μ.put H.aG L) H' (w.alloc o)/\Step μ (μ.put H.aG L) H H':=by
 have kK:=h.uZ L;have eb:∀x b8,(μ.put H.aG L) x=some b8->x≠H.aG->μ x=some b8:=fun x b8 a b=>by rwa [b5.ud _ _ b] at a
 have cA:∀x b8,μ x=some b8->b8.r<w.heap.size:=fun x b8 ab=>by
  obtain⟨b',o',_,aj,_⟩:=h.gf x b8 ab;rcases iK b8.r w.heap.size with c9|c9
  ·exact c9
  ·rw[s5 c9] at aj;cases aj
 refine⟨⟨h.below.alloc h.nT o,?_,?_,?_,?_,?_,?_,?_,?_,?_,?_,?_⟩,⟨kK,by omega,ed,?_⟩⟩
 ·intro k hk;have:=h.nT k hk;show k<(w.heap.push o).size;rw[SB];omega
 ·intro x b8 ab;by_cases dk:x=H.aG
  ·subst dk;rw[b5.kh] at ab;injection ab with ab;subst ab
   exact⟨b,o,by rw[cH];simp,by rw[CW,av];simp,ak⟩
  ·have fT:=eb x b8 ab dk;obtain⟨b',o',ad,af,aV⟩:=h.gf x b8 fT;exact⟨b',o',by rw[cH,bd dk];exact ad,by rw[CW,bd (by have:=cA x b8 fT;omega)];exact af,aV.mono kK⟩
 ·intro x y hQ hX eM ab aB oa;by_cases dk:x=H.aG
  ·subst dk;rw[b5.kh] at ab;injection ab with ab;subst ab
   have:=cA y hX (eb y hX aB (Ne.symm eM));omega
  ·by_cases k4:y=H.aG
   ·subst k4;rw[b5.kh] at aB;injection aB with aB;subst aB
    have:=cA x hQ (eb x hQ ab dk);omega
   ·rcases h.sep x y hQ hX eM (eb x hQ ab dk) (eb y hX aB k4) oa with d|d|⟨f,l,⟨c,e,z,s,q⟩,⟨c',b3,hq,dC,dG⟩,aD,c1,fq⟩
    ·exact .inl (by rw[cH,bd dk];exact d)
    ·exact .inr (.inl (by rw[cH,bd k4];exact d))
    ·exact .inr (.inr ⟨f,l,⟨c,e,z,s,by rw[cH,bd dk];exact q⟩,⟨c',b3,hq,dC,by rw[cH,bd k4];exact dG⟩,ah3 f l (h.q4 _ _ _ _ _ _ q) aD,c1,fq⟩)
 ·intro x b8 ab;by_cases dk:x=H.aG
  ·omega
  ·have:=h.lt x b8 (eb x b8 ab dk);omega
 ·intro x b8 ab aF;rw[ed] at aF;have dk:x≠H.aG:=by have:=h.kI;omega
  exact h.own x b8 (eb x b8 ab dk) aF
 ·intro x b8 ab aF ez;rw[ed] at aF;by_cases dk:x=H.aG
  ·subst dk;rw[b5.kh] at ab;injection ab with ab;subst ab
   rw[av];exact fun q=>zQ _ (h.nT _ q)
  ·exact h.new x b8 (eb x b8 ab dk) aF (by rw[cH,bd dk] at ez;exact ez)
 ·intro g c e o f z s aF hm;rw[ed] at aF;have Ay:g≠H.aG:=by have:=h.kI;omega
  rw[cH,bd Ay] at hm;obtain⟨b8,bB⟩:=h.tv g c e o f z s aF hm;exact⟨b8,kK _ _ bB⟩
 ·rw[ed,aC];have:=h.kI;omega
 ·intro x c e f z s hm;rw[cH] at hm;split at hm
  ·injection hm with hm;exact aiF c e f z s hm
  ·exact iJ (h.q4 x c e f z s hm) Pm
 ·intro f l x aD ab;rcases oJ f l aD with aD|⟨rfl,aj⟩
  ·obtain⟨a,d⟩:=h.lq f l x aD ab;have dk:x≠H.aG:=by omega
   refine⟨by omega,?_⟩;rw[cH,bd dk];exact d
  ·simp at ab;subst ab;exact⟨by omega,.inl (by rw[cH];simpa using aj)⟩
 ·intro f l aD;rcases oJ f l aD with aD|⟨rfl,_⟩
  ·refine(h.u0 f l aD).imp_of_mem ?_;intro x y ab aB eM c e f1 z s c' b3 f' hq dC q dG;have fT:=(h.lq f l x aD ab).1;have yX:=(h.lq f l y aD aB).1;rw[cH,bd (by omega)] at q dG;exact eM c e _ z s c' b3 f' hq dC q dG
  ·exact abt _ _
 ·intro x ab hG;have dk:x≠H.aG:=by omega
  exact⟨by rw[b5.ud _ _ dk];exact hG,fun _=>by rw[cH,bd dk]⟩
theorem cd.made(h:cd P B w0 μ H w){id:Nat}{b:fs}{o:Obj}{L:Loc}(aE:H.new b=some (id,H'))(aj:kw (some b)=false)(av:L.r=w.heap.size)(ak:j5 P (μ.put H.aG L) L b o):
 cd P B w0 (μ.put H.aG L) H' (w.alloc o)/\Step μ (μ.put H.aG L) H H'/\id=H.aG:=by
 obtain⟨rfl,aC,aW,cw,ed,cH⟩:=aw.qC aE;obtain⟨a,b⟩:=h.XQ (H':=H') aC ed cH (by omega) (fun f l x=>.inl (by rw[<-aW];exact x)) (fun f l _ x=>by rw[aW];exact x) (fun c e f z s q=>by rw[q] at aj;simp[kw] at aj) av ak;exact⟨a,b,rfl⟩
theorem cd.QF(h:cd P B w0 μ H w){id:Nat}{cells:List Value}{elem:TypeId}{sh:Bool}{o:Obj}{L:Loc}(aE:H.oj cells elem sh=some (id,H'))(av:L.r=w.heap.size)
 (ak:∀f,j5 P (μ.put H.aG L) L (.row cells elem true f 0 sh) o):
 cd P B w0 (μ.put H.aG L) H' (w.alloc o)/\Step μ (μ.put H.aG L) H H'/\id=H.aG:=by
 unfold aw.oj at aE;cases aM:H.vE with
 |none=>rw[aM] at aE;cases aE
 |some p=>
  obtain⟨f,H1⟩:=p;rw[aM] at aE;obtain⟨rfl,bO,bA,cU,dn,cK⟩:=aw.K0 aM;obtain⟨rfl,aC,aW,cw,ed,cH⟩:=aw.qC aE
  obtain⟨x,y⟩:=h.XQ (H':=H') (b:=.row cells elem true H.cF 0 sh) (o:=o) (L:=L) (by omega) (by rw[ed,dn]) (fun m=>by rw[cH,bO,bA]) (by omega)
   (fun f l aD=>by
    rw[aW,cK] at aD;split at aD
    ·injection aD with aD;exact .inr ⟨aD.symm,rfl⟩
    ·exact .inl aD)
   (fun f l aM aD=>by rw[aW,cK,bd (by omega)];exact aD)
   (fun c e f z s q=>by injection q with _ _ _ q;omega) av (ak _)
  exact⟨x,y,bO⟩
theorem cd.write(h:cd P B w0 μ H w){id:Nat}{L:Loc}{b':fs}{o':Obj}(bB:μ id=some L)(aF:H.bU<=id)(vi:H.mem.get id≠some .dead)
 (aC:H'.aG=H.aG)(aW:H'.cF=H.cF)(cw:H'.bU=H.bU)(Cu:H'.mem.get id=some b')
 (bT:∀x,x≠id->H'.mem.get x=H.mem.get x\/(H'.mem.get x=some .dead/\(kw (H.mem.get x)=true\/H.mem.get x=some .dead)))
 (afj:∀x b8,x≠id->μ x=some b8->b8.r=L.r->H'.mem.get x=some .dead)
 (Nz:∀f l,H.bP.get f=some l->H'.bP.get f=some l\/∀x y,x∈l->y∈l->x≠y->H'.mem.get x=some .dead\/H'.mem.get y=some .dead)
 (Fs:∀f l,H'.bP.get f=some l->H.bP.get f=some l\/(l=[id]/\kw (some b')=true))
 (eA:∀c e f z s,b'=.row c e true f z s->∃c' b3 hq dC,H.mem.get id=some (.row c' b3 true f hq dC)/\c'.length=c.length)
 (Wh:kw (H.mem.get id)=true->kw (some b')=true)(ak:j5 P μ L b' o'):
 cd P B w0 μ H' {w with heap:=w.heap.setIfInBounds L.r o'}/\Step μ μ H H':=by
 have ra:∀x,H.mem.get x=some .dead->H'.mem.get x=some .dead:=fun x ab=>by
  have eh:x≠id:=fun e=>vi (e▸ab);rcases bT x eh with q|q
  ·rw[q,ab]
  ·exact q.1
 have oJ:∀x f,xj H x f->H'.mem.get x=some .dead\/xj H' x f:=fun x f ab=>by
  obtain⟨c,e,z,s,q⟩:=ab;by_cases j0:x=id
  ·subst j0;right
   have aj:=Wh (by rw[q];rfl);cases b' with
   |row bH wz DM f1 du s1=>
    simp only[kw] at aj;subst aj;obtain⟨c',b3,hq,dC,dG,_⟩:=eA bH wz f1 du s1 rfl;rw[q] at dG;injection dG with dG;injection dG with _ _ _ am4;subst am4
    exact⟨bH,wz,du,s1,Cu⟩
   |_=>simp[kw] at aj
  ·rcases bT x j0 with p|p
   ·right;exact⟨c,e,z,s,by rw[p];exact q⟩
   ·left;exact p.1
 have Ot:L.r<w.heap.size:=by
  obtain⟨b,o,_,aj,_⟩:=h.gf id L bB;rcases iK L.r w.heap.size with c9|c9
  ·exact c9
  ·rw[s5 c9] at aj;cases aj
 have JH:=h.new id L bB aF vi;have m7:∀r,({w with heap:=w.heap.setIfInBounds L.r o'}:World).heap[r]?=if r=L.r then some o' else w.heap[r]?:=fun r=>by
  show(w.heap.setIfInBounds L.r o')[r]?=_;rw[zB];by_cases av:L.r=r
  ·subst av;simp[Ot]
  ·rw[bd av,bd (Ne.symm av)]
 have m9:∀x c e f z s,H'.mem.get x=some (.row c e true f z s)->∃c' b3 hq dC,H.mem.get x=some (.row c' b3 true f hq dC)/\c'.length=c.length:=fun x c e f z s hm=>by
  by_cases j0:x=id
  ·subst j0;rw[Cu] at hm;injection hm with hm
   exact eA c e f z s hm
  ·rcases bT x j0 with q|q
   ·rw[q] at hm;exact⟨c,e,z,s,hm,rfl⟩
   ·rw[q.1] at hm;cases hm
 refine⟨⟨⟨h.below.os,h.below.tape,h.below.output,?_,?_⟩,?_,?_,?_,?_,?_,?_,?_,?_,?_,?_,?_⟩,⟨Ext.refl _,by omega,cw,?_⟩⟩
 ·show w0.heap.size<=(w.heap.setIfInBounds L.r o').size;rw[Ir];exact h.below.size
 ·intro k hk;rw[m7,bd (fun e=>by subst e;exact JH hk)];exact h.below.block k hk
 ·intro k hk;show k<(w.heap.setIfInBounds L.r o').size;rw[Ir];exact h.nT k hk
 ·intro x b8 ab;by_cases j0:x=id
  ·subst j0;rw[bB] at ab;injection ab with ab;subst ab
   exact⟨b',o',Cu,by rw[m7];simp,ak⟩
  ·by_cases av:b8.r=L.r
   ·exact⟨.dead,o',afj x b8 j0 ab av,by rw[m7,bj av],by simp[j5]⟩
   ·obtain⟨b,o,dr,hC,oX⟩:=h.gf x b8 ab;rcases bT x j0 with q|q
    ·exact⟨b,o,by rw[q];exact dr,by rw[m7,bd av];exact hC,oX⟩
    ·exact⟨.dead,o,q.1,by rw[m7,bd av];exact hC,by cases o<;>simp[j5]⟩
 ·intro x y hQ hX eM ab aB oa;rcases h.sep x y hQ hX eM ab aB oa with d|d|⟨f,l,q,dG,aD,c1,fq⟩
  ·exact .inl (ra x d)
  ·exact .inr (.inl (ra y d))
  ·rcases oJ x f q with d|q
   ·exact .inl d
   ·rcases oJ y f dG with d|dG
    ·exact .inr (.inl d)
    ·rcases Nz f l aD with dL|nv
     ·exact .inr (.inr ⟨f,l,q,dG,dL,c1,fq⟩)
     ·rcases nv x y c1 fq eM with d|d
      ·exact .inl d
      ·exact .inr (.inl d)
 ·intro x b8 ab;rw[aC];exact h.lt x b8 ab
 ·intro x b8 ab fT;rw[cw] at fT;exact h.own x b8 ab fT
 ·intro x b8 ab fT ez;rw[cw] at fT;exact h.new x b8 ab fT fun q=>ez (ra x q)
 ·intro g c e o f z s wV hm;rw[cw] at wV;have eh:g≠id:=by omega
  rcases bT g eh with q|q
  ·rw[q] at hm;exact h.tv g c e o f z s wV hm
  ·rw[q.1] at hm;cases hm
 ·rw[cw,aC];exact h.kI
 ·intro x c e f z s hm;rw[aW];by_cases j0:x=id
  ·subst j0;rw[Cu] at hm;injection hm with hm
   obtain⟨c',b3,hq,dC,dG,_⟩:=eA c e f z s hm;exact h.q4 _ _ _ _ _ _ dG
  ·rcases bT x j0 with q|q
   ·rw[q] at hm;exact h.q4 x c e f z s hm
   ·rw[q.1] at hm;cases hm
 ·intro f l x aD ab;rw[aC];rcases Fs f l aD with aD|⟨rfl,aj⟩
  ·obtain⟨a,d⟩:=h.lq f l x aD ab;refine⟨a,?_⟩;rcases d with d|d
   ·by_cases j0:x=id
    ·subst j0;left;rw[Cu];exact Wh d
    ·rcases bT x j0 with q|q
     ·left;rw[q];exact d
     ·right;exact q.1
   ·right;exact ra x d
  ·simp at ab;subst ab;exact⟨h.lt _ _ bB,.inl (by rw[Cu];exact aj)⟩
 ·intro f l aD;rcases Fs f l aD with aD|⟨rfl,_⟩
  ·refine(h.u0 f l aD).imp ?_;intro x y eM c e f z s c' b3 f' hq dC q dG;obtain⟨bH,wz,du,s1,aX,aU⟩:=m9 x c e f z s q;obtain⟨bM,arG,dt,s2,b0,dN⟩:=m9 y c' b3 f' hq dC dG;have:=eM _ _ _ _ _ _ _ _ _ _ aX b0;omega
  ·exact abt _ _
 ·intro x ab hG;refine⟨hG,fun aj=>?_⟩;have j0:x≠id:=fun e=>by subst e;rw[bB] at hG;cases hG
  rcases bT x j0 with q|q
  ·exact q
  ·rcases q.2 with r|r
   ·rw[aj] at r;cases r
   ·rw[q.1,r]
theorem cd.kill(h:cd P B w0 μ H w)(aC:H'.aG=H.aG)(aW:H'.cF=H.cF)(cw:H'.bU=H.bU)
 (bT:∀x,H'.mem.get x=H.mem.get x\/(H'.mem.get x=some .dead/\(kw (H.mem.get x)=true\/H.mem.get x=some .dead)))
 (Nz:∀f l,H.bP.get f=some l->∃l',H'.bP.get f=some l'/\l'.Sublist l/\∀x,x∈l->x∉l'->H'.mem.get x=some .dead)
 (Fs:∀f l',H'.bP.get f=some l'->∃l,H.bP.get f=some l/\l'.Sublist l):
 cd P B w0 μ H' w/\Step μ μ H H':=by
 have ra:∀x,H.mem.get x=some .dead->H'.mem.get x=some .dead:=fun x ab=>by
  rcases bT x with q|q
  ·rw[q,ab]
  ·exact q.1
 have oJ:∀x f,xj H x f->H'.mem.get x=some .dead\/xj H' x f:=fun x f ab=>by
  obtain⟨c,e,z,s,q⟩:=ab;rcases bT x with p|p
  ·right;exact⟨c,e,z,s,by rw[p];exact q⟩
  ·left;exact p.1
 have m9:∀x c e f z s,H'.mem.get x=some (.row c e true f z s)->H.mem.get x=some (.row c e true f z s):=fun x c e f z s hm=>by
  rcases bT x with q|q
  ·rw[q] at hm;exact hm
  ·rw[q.1] at hm;cases hm
 refine⟨⟨h.below,h.nT,?_,?_,?_,?_,?_,?_,?_,?_,?_,?_⟩,⟨Ext.refl _,by omega,cw,?_⟩⟩
 ·intro x b8 ab;obtain⟨b,o,dr,hC,oX⟩:=h.gf x b8 ab;rcases bT x with q|q
  ·exact⟨b,o,by rw[q];exact dr,hC,oX⟩
  ·exact⟨.dead,o,q.1,hC,by cases o<;>simp[j5]⟩
 ·intro x y hQ hX eM ab aB oa;rcases h.sep x y hQ hX eM ab aB oa with d|d|⟨f,l,q,dG,aD,c1,fq⟩
  ·exact .inl (ra x d)
  ·exact .inr (.inl (ra y d))
  ·rcases oJ x f q with d|q
   ·exact .inl d
   ·rcases oJ y f dG with d|dG
    ·exact .inr (.inl d)
    ·obtain⟨l',ad,_,aV⟩:=Nz f l aD;by_cases k2:x∈l'
     ·by_cases xe:y∈l'
      ·exact .inr (.inr ⟨f,l',q,dG,ad,k2,xe⟩)
      ·exact .inr (.inl (aV y fq xe))
     ·exact .inl (aV x c1 k2)
 ·intro x b8 ab;rw[aC];exact h.lt x b8 ab
 ·intro x b8 ab fT;rw[cw] at fT;exact h.own x b8 ab fT
 ·intro x b8 ab fT ez;rw[cw] at fT;exact h.new x b8 ab fT fun q=>ez (ra x q)
 ·intro g c e o f z s wV hm;rw[cw] at wV;rcases bT g with q|q
  ·rw[q] at hm;exact h.tv g c e o f z s wV hm
  ·rw[q.1] at hm;cases hm
 ·rw[cw,aC];exact h.kI
 ·intro x c e f z s hm;rw[aW];exact h.q4 x c e f z s (m9 x c e f z s hm)
 ·intro f l x aD ab;rw[aC];obtain⟨l0,ad,af⟩:=Fs f l aD;obtain⟨a,d⟩:=h.lq f l0 x ad (af.mem ab);refine⟨a,?_⟩;rcases bT x with q|q
  ·rw[q];exact d
  ·right;exact q.1
 ·intro f l aD;obtain⟨l0,ad,af⟩:=Fs f l aD;refine((h.u0 f l0 ad).sublist af).imp ?_;intro x y eM c e f z s c' b3 f' hq dC q dG;exact eM _ _ _ _ _ _ _ _ _ _ (m9 _ _ _ _ _ _ q) (m9 _ _ _ _ _ _ dG)
 ·intro x ab hG;refine⟨hG,fun aj=>?_⟩;rcases bT x with q|q
  ·exact q
  ·rcases q.2 with r|r
   ·rw[aj] at r;cases r
   ·rw[q.1,r]
theorem ZJ(h:cd P B w0 μ H w){f:Nat}{l l0:List Nat}{cells:List Value}{elem:TypeId}{ey:Nat}{sh:Bool}(aD:H.bP.get f=some l0)(rk:l.Sublist l0)
 (cH:∀m,H'.mem.get m=if m=H.aG then some (.row cells elem true f ey sh) else H.mem.get m)
 (h0:∀m,H'.bP.get m=if m=f then some (H.aG::l) else H.bP.get m)(xa:∀y∈l,∀c e f z s,H.mem.get y=some (.row c e true f z s)->c.length<=cells.length):
 ∀f' l',H'.bP.get f'=some l'->MA H' l':=by
 have Yt:∀f' l',H.bP.get f'=some l'->MA H' l':=fun f' l' dL=>by
  refine(h.u0 f' l' dL).imp_of_mem ?_;intro x y ab aB eM c e f1 z s c' b3 f2 hq dC q dG;have fT:=(h.lq f' l' x dL ab).1;have yX:=(h.lq f' l' y dL aB).1;rw[cH,bd (by omega)] at q dG;exact eM _ _ _ _ _ _ _ _ _ _ q dG
 intro f' l' dL;rw[h0] at dL;split at dL
 ·injection dL with dL;subst dL
  refine List.pairwise_cons.2 ⟨fun y aB c e f1 z s c' b3 f2 hq dC q dG=>?_,(Yt f l0 aD).sublist rk⟩;have yX:=(h.lq f l0 y aD (rk.mem aB)).1;rw[cH,bj rfl] at q;rw[cH,bd (by omega)] at dG;injection q with q;injection q with q;subst q
  exact xa y aB _ _ _ _ _ dG
 ·exact Yt f' l' dL
theorem cd.YP(h:cd P B w0 μ H w){f:Nat}{l l0:List Nat}{cells:List Value}{elem:TypeId}{ey:Nat}{sh:Bool}{o:Obj}{L:Loc}(aD:H.bP.get f=some l0)(rk:l.Sublist l0)(Gr:∀x,x∈l0->x∉l->H.mem.get x=some .dead)(aM:f<H.cF)
 (aC:H'.aG=H.aG+1)(aW:H'.cF=H.cF)(ed:H'.bU=H.bU)(cH:∀m,H'.mem.get m=if m=H.aG then some (.row cells elem true f ey sh) else H.mem.get m)
 (h0:∀m,H'.bP.get m=if m=f then some (H.aG::l) else H.bP.get m)(xa:∀y∈l,∀c e f z s,H.mem.get y=some (.row c e true f z s)->c.length<=cells.length)
 (av:L.r=w.heap.size)(ak:j5 P (μ.put H.aG L) L (.row cells elem true f ey sh) o):
 cd P B w0 (μ.put H.aG L) H' (w.alloc o)/\Step μ (μ.put H.aG L) H H':=by
 have kK:=h.uZ L;have eb:∀x b8,(μ.put H.aG L) x=some b8->x≠H.aG->μ x=some b8:=fun x b8 a b=>by rwa [b5.ud _ _ b] at a
 have cA:∀x b8,μ x=some b8->b8.r<w.heap.size:=fun x b8 ab=>by
  obtain⟨b',o',_,aj,_⟩:=h.gf x b8 ab;rcases iK b8.r w.heap.size with c9|c9
  ·exact c9
  ·rw[s5 c9] at aj;cases aj
 refine⟨⟨h.below.alloc h.nT o,?_,?_,?_,?_,?_,?_,?_,?_,?_,?_,?_⟩,⟨kK,by omega,ed,?_⟩⟩
 ·intro k hk;have:=h.nT k hk;show k<(w.heap.push o).size;rw[SB];omega
 ·intro x b8 ab;by_cases dk:x=H.aG
  ·subst dk;rw[b5.kh] at ab;injection ab with ab;subst ab
   exact⟨_,o,by rw[cH];simp,by rw[CW,av];simp,ak⟩
  ·have fT:=eb x b8 ab dk;obtain⟨b',o',ad,af,aV⟩:=h.gf x b8 fT;exact⟨b',o',by rw[cH,bd dk];exact ad,by rw[CW,bd (by have:=cA x b8 fT;omega)];exact af,aV.mono kK⟩
 ·intro x y hQ hX eM ab aB oa;by_cases dk:x=H.aG
  ·subst dk;rw[b5.kh] at ab;injection ab with ab;subst ab
   have:=cA y hX (eb y hX aB (Ne.symm eM));omega
  ·by_cases k4:y=H.aG
   ·subst k4;rw[b5.kh] at aB;injection aB with aB;subst aB
    have:=cA x hQ (eb x hQ ab dk);omega
   ·rcases h.sep x y hQ hX eM (eb x hQ ab dk) (eb y hX aB k4) oa with d|d|⟨f',l',⟨c,e,z,s,q⟩,⟨c',b3,hq,dC,dG⟩,dL,c1,fq⟩
    ·exact .inl (by rw[cH,bd dk];exact d)
    ·exact .inr (.inl (by rw[cH,bd k4];exact d))
    ·by_cases qn:f'=f
     ·subst qn;rw[aD] at dL;injection dL with dL;subst dL
      by_cases dM:x∈l
      ·by_cases eU:y∈l
       ·exact .inr (.inr ⟨f',H.aG::l,⟨c,e,z,s,by rw[cH,bd dk];exact q⟩,⟨c',b3,hq,dC,by rw[cH,bd k4];exact dG⟩,by rw[h0];simp,by simp[dM],by simp[eU]⟩)
       ·exact .inr (.inl (by rw[cH,bd k4];exact Gr y fq eU))
      ·exact .inl (by rw[cH,bd dk];exact Gr x c1 dM)
     ·exact .inr (.inr ⟨f',l',⟨c,e,z,s,by rw[cH,bd dk];exact q⟩,⟨c',b3,hq,dC,by rw[cH,bd k4];exact dG⟩,by rw[h0,bd qn];exact dL,c1,fq⟩)
 ·intro x b8 ab;by_cases dk:x=H.aG
  ·omega
  ·have:=h.lt x b8 (eb x b8 ab dk);omega
 ·intro x b8 ab aF;rw[ed] at aF;have dk:x≠H.aG:=by have:=h.kI;omega
  exact h.own x b8 (eb x b8 ab dk) aF
 ·intro x b8 ab aF ez;rw[ed] at aF;by_cases dk:x=H.aG
  ·subst dk;rw[b5.kh] at ab;injection ab with ab;subst ab
   rw[av];exact fun q=>zQ _ (h.nT _ q)
  ·exact h.new x b8 (eb x b8 ab dk) aF (by rw[cH,bd dk] at ez;exact ez)
 ·intro g c e o f z s aF hm;rw[ed] at aF;have Ay:g≠H.aG:=by have:=h.kI;omega
  rw[cH,bd Ay] at hm;obtain⟨b8,bB⟩:=h.tv g c e o f z s aF hm;exact⟨b8,kK _ _ bB⟩
 ·rw[ed,aC];have:=h.kI;omega
 ·intro x c e f' z s hm;rw[cH] at hm;split at hm
  ·injection hm with hm;injection hm with _ _ _ hm;omega
  ·have:=h.q4 x c e f' z s hm;omega
 ·intro f' l' x dL ab;rw[h0] at dL;split at dL
  ·injection dL with dL;subst dL
   simp at ab;rcases ab with ab|ab
   ·subst ab;exact⟨by omega,.inl (by rw[cH];simp[kw])⟩
   ·obtain⟨a,d⟩:=h.lq f l0 x aD (rk.mem ab);exact⟨by omega,by rw[cH,bd (by omega)];exact d⟩
  ·obtain⟨a,d⟩:=h.lq f' l' x dL ab;exact⟨by omega,by rw[cH,bd (by omega)];exact d⟩
 ·exact ZJ h aD rk cH h0 xa
 ·intro x ab hG;have dk:x≠H.aG:=by omega
  exact⟨by rw[b5.ud _ _ dk];exact hG,fun _=>by rw[cH,bd dk]⟩
theorem cd.amW(h:cd P B w0 μ H w){f id:Nat}{l l0:List Nat}{cells:List Value}{elem:TypeId}{ey:Nat}{sh:Bool}{o o':Obj}{L:Loc}(aD:H.bP.get f=some l0)(rk:l.Sublist l0)(Gr:∀x,x∈l0->x∉l->H.mem.get x=some .dead)(aM:f<H.cF)(bB:μ id=some L)(aF:H.bU<=id)(JH:¬B L.r)
 (aC:H'.aG=H.aG+1)(aW:H'.cF=H.cF)(ed:H'.bU=H.bU)(cH:∀m,H'.mem.get m=if m=H.aG then some (.row cells elem true f ey sh) else H.mem.get m)
 (h0:∀m,H'.bP.get m=if m=f then some (H.aG::l) else H.bP.get m)(xa:∀y∈l,∀c e f z s,H.mem.get y=some (.row c e true f z s)->c.length<=cells.length)
 (w3:∀y b8,μ y=some b8->b8.r=L.r->H.mem.get y=some .dead\/(xj H y f/\y∈l/\∃b,H.mem.get y=some b/\j5 P μ b8 b o'))
 (ak:j5 P μ L (.row cells elem true f ey sh) o'):
 cd P B w0 (μ.put H.aG L) H' {w with heap:=w.heap.setIfInBounds L.r o'}/\Step μ (μ.put H.aG L) H H':=by
 have _:=o;have kK:=h.uZ L;have eb:∀x b8,(μ.put H.aG L) x=some b8->x≠H.aG->μ x=some b8:=fun x b8 a b=>by rwa [b5.ud _ _ b] at a
 have Ot:L.r<w.heap.size:=by
  obtain⟨b,o,_,aj,_⟩:=h.gf id L bB;rcases iK L.r w.heap.size with c9|c9
  ·exact c9
  ·rw[s5 c9] at aj;cases aj
 have m7:∀r,({w with heap:=w.heap.setIfInBounds L.r o'}:World).heap[r]?=if r=L.r then some o' else w.heap[r]?:=fun r=>by
  show(w.heap.setIfInBounds L.r o')[r]?=_;rw[zB];by_cases av:L.r=r
  ·subst av;simp[Ot]
  ·rw[bd av,bd (Ne.symm av)]
 have mF:xj H' H.aG f:=⟨cells,elem,ey,sh,by rw[cH];simp⟩;have ah9:H'.bP.get f=some (H.aG::l):=by rw[h0];simp
 have side:∀y hX,y≠H.aG->μ y=some hX->hX.r=L.r->Sy H' H.aG y:=fun y hX k4 aB oa=>by
  rcases w3 y hX aB oa with d|⟨⟨c,e,z,s,q⟩,m,_⟩
  ·exact .inr (.inl (by rw[cH,bd k4];exact d))
  ·exact .inr (.inr ⟨f,_,mF,⟨c,e,z,s,by rw[cH,bd k4];exact q⟩,ah9,by simp,by simp[m]⟩)
 refine⟨⟨⟨h.below.os,h.below.tape,h.below.output,?_,?_⟩,?_,?_,?_,?_,?_,?_,?_,?_,?_,?_,?_⟩,⟨kK,by omega,ed,?_⟩⟩
 ·show w0.heap.size<=(w.heap.setIfInBounds L.r o').size;rw[Ir];exact h.below.size
 ·intro k hk;rw[m7,bd (fun e=>by subst e;exact JH hk)];exact h.below.block k hk
 ·intro k hk;show k<(w.heap.setIfInBounds L.r o').size;rw[Ir];exact h.nT k hk
 ·intro x b8 ab;by_cases dk:x=H.aG
  ·subst dk;rw[b5.kh] at ab;injection ab with ab;subst ab
   exact⟨_,o',by rw[cH];simp,by rw[m7];simp,ak.mono kK⟩
  ·have fT:=eb x b8 ab dk;by_cases av:b8.r=L.r
   ·rcases w3 x b8 fT av with d|⟨_,_,b,aX,aU⟩
    ·exact⟨.dead,o',by rw[cH,bd dk];exact d,by rw[m7,bj av],by cases o'<;>simp[j5]⟩
    ·exact⟨b,o',by rw[cH,bd dk];exact aX,by rw[m7,bj av],aU.mono kK⟩
   ·obtain⟨b',DM,ad,af,aV⟩:=h.gf x b8 fT;exact⟨b',DM,by rw[cH,bd dk];exact ad,by rw[m7,bd av];exact af,aV.mono kK⟩
 ·intro x y hQ hX eM ab aB oa;by_cases dk:x=H.aG
  ·subst dk;rw[b5.kh] at ab;injection ab with ab;subst ab
   exact side y hX (Ne.symm eM) (eb y hX aB (Ne.symm eM)) oa.symm
  ·by_cases k4:y=H.aG
   ·subst k4;rw[b5.kh] at aB;injection aB with aB;subst aB
    rcases side x hQ dk (eb x hQ ab dk) oa with d|d|⟨f',l',q,dG,dL,c1,fq⟩
    ·exact .inr (.inl d)
    ·exact .inl d
    ·exact .inr (.inr ⟨f',l',dG,q,dL,fq,c1⟩)
   ·rcases h.sep x y hQ hX eM (eb x hQ ab dk) (eb y hX aB k4) oa with d|d|⟨f',l',⟨c,e,z,s,q⟩,⟨c',b3,hq,dC,dG⟩,dL,c1,fq⟩
    ·exact .inl (by rw[cH,bd dk];exact d)
    ·exact .inr (.inl (by rw[cH,bd k4];exact d))
    ·by_cases qn:f'=f
     ·subst qn;rw[aD] at dL;injection dL with dL;subst dL
      by_cases dM:x∈l
      ·by_cases eU:y∈l
       ·exact .inr (.inr ⟨f',H.aG::l,⟨c,e,z,s,by rw[cH,bd dk];exact q⟩,⟨c',b3,hq,dC,by rw[cH,bd k4];exact dG⟩,by rw[h0];simp,by simp[dM],by simp[eU]⟩)
       ·exact .inr (.inl (by rw[cH,bd k4];exact Gr y fq eU))
      ·exact .inl (by rw[cH,bd dk];exact Gr x c1 dM)
     ·exact .inr (.inr ⟨f',l',⟨c,e,z,s,by rw[cH,bd dk];exact q⟩,⟨c',b3,hq,dC,by rw[cH,bd k4];exact dG⟩,by rw[h0,bd qn];exact dL,c1,fq⟩)
 ·intro x b8 ab;by_cases dk:x=H.aG
  ·omega
  ·have:=h.lt x b8 (eb x b8 ab dk);omega
 ·intro x b8 ab aF;rw[ed] at aF;have dk:x≠H.aG:=by have:=h.kI;omega
  exact h.own x b8 (eb x b8 ab dk) aF
 ·intro x b8 ab aF ez;rw[ed] at aF;by_cases dk:x=H.aG
  ·subst dk;rw[b5.kh] at ab;injection ab with ab;subst ab
   exact JH
  ·exact h.new x b8 (eb x b8 ab dk) aF (by rw[cH,bd dk] at ez;exact ez)
 ·intro g c e o f z s aF hm;rw[ed] at aF;have Ay:g≠H.aG:=by have:=h.kI;omega
  rw[cH,bd Ay] at hm;obtain⟨b8,bB⟩:=h.tv g c e o f z s aF hm;exact⟨b8,kK _ _ bB⟩
 ·rw[ed,aC];have:=h.kI;omega
 ·intro x c e f' z s hm;rw[cH] at hm;split at hm
  ·injection hm with hm;injection hm with _ _ _ hm;omega
  ·have:=h.q4 x c e f' z s hm;omega
 ·intro f' l' x dL ab;rw[h0] at dL;split at dL
  ·injection dL with dL;subst dL
   simp at ab;rcases ab with ab|ab
   ·subst ab;exact⟨by omega,.inl (by rw[cH];simp[kw])⟩
   ·obtain⟨a,d⟩:=h.lq f l0 x aD (rk.mem ab);exact⟨by omega,by rw[cH,bd (by omega)];exact d⟩
  ·obtain⟨a,d⟩:=h.lq f' l' x dL ab;exact⟨by omega,by rw[cH,bd (by omega)];exact d⟩
 ·exact ZJ h aD rk cH h0 xa
 ·intro x ab hG;have dk:x≠H.aG:=by omega
  exact⟨by rw[b5.ud _ _ dk];exact hG,fun _=>by rw[cH,bd dk]⟩
theorem KE{pG:Nat}:∀{l:List Nat} {H H':aw},sG H pG l=some H'->H'.aG=H.aG/\H'.bP=H.bP/\H'.cF=H.cF/\H'.bU=H.bU/\
 (∀x,x∈l->x≠pG->H'.mem.get x=some .dead)/\(∀x,x∉l\/x=pG->H'.mem.get x=H.mem.get x):=by
 intro l;induction l with
 |nil=>intro H H' h;simp[sG] at h;subst h;exact⟨rfl,rfl,rfl,rfl,fun x ab=>by simp at ab,fun x _=>rfl⟩
 |cons y l aZ=>
  intro H H' h;simp only[sG] at h;cases aB:Nat.beq y pG with
  |true=>
   rw[aB] at h;have GM:=eC aB;obtain⟨bO,bA,cU,dn,cK,e6⟩:=aZ (by simpa using h);refine⟨bO,bA,cU,dn,fun x ab eh=>?_,fun x ab=>?_⟩
   ·simp at ab;rcases ab with rfl|ab
    ·exact absurd GM eh
    ·exact cK x ab eh
   ·refine e6 x ?_;rcases ab with ab|ab
    ·left;simp at ab;exact ab.2
    ·right;exact ab
  |false=>
   rw[aB] at h;have GM:y≠pG:=fun e=>by subst e;simp at aB
   simp only[dB] at h;cases hu:H.upd y .dead with
   |none=>rw[hu] at h;cases h
   |some H1=>
    rw[hu] at h;obtain⟨bQ,bL,cZ,dE,fI⟩:=aw.xX hu;obtain⟨bO,bA,cU,dn,cK,e6⟩:=aZ h;refine⟨by omega,by rw[bA,bL],by omega,by omega,fun x ab eh=>?_,fun x ab=>?_⟩
    ·by_cases k2:x∈l
     ·exact cK x k2 eh
     ·have eM:x=y:=by simp at ab;rcases ab with q|q;exact q;exact absurd q k2
      rw[e6 x (.inl k2),fI,bj eM]
    ·have eM:x≠y:=by
      rcases ab with q|q
      ·simp at q;exact q.1
      ·rw[q];exact Ne.symm GM
     have:x∉l\/x=pG:=by
      rcases ab with q|q
      ·left;simp at q;exact q.2
      ·right;exact q
     rw[e6 x this,fI,bd eM]
theorem ad'{id:Nat}:∀{l l':List Nat} {H H':aw},yt H id l=some (l',H')->H'.aG=H.aG/\H'.bP=H.bP/\H'.cF=H.cF/\H'.bU=H.bU/\l'.Sublist l/\id∈l'/\H'.mem.get id=H.mem.get id/\
 (∀x,x∈l->x∉l'->H'.mem.get x=some .dead)/\(∀x,H'.mem.get x=H.mem.get x\/(H'.mem.get x=some .dead/\x∈l))/\(∃pre,l=pre++l'/\l'=id::l'.tail):=by
 intro l;induction l with
 |nil=>intro l' H H' h;simp[yt] at h
 |cons y l aZ=>
  intro l' H H' h;simp only[yt] at h;cases aB:Nat.beq y id with
  |true=>
   rw[aB,cv] at h;simp only[cD,dK] at h;obtain⟨rfl,rfl⟩:=h;have:=eC aB;subst this;exact⟨rfl,rfl,rfl,rfl,bx _,by simp,rfl,fun x a b=>absurd a b,fun x=>.inl rfl,[],rfl,rfl⟩
  |false=>
   rw[aB,dB] at h;have GM:y≠id:=fun e=>by subst e;simp at aB
   cases hu:H.upd y .dead with
   |none=>rw[hu] at h;cases h
   |some H1=>
    rw[hu] at h;obtain⟨bQ,bL,cZ,dE,fI⟩:=aw.xX hu;obtain⟨bO,bA,cU,dn,cK,e6,fK,kV,nR,pre,uM,r5⟩:=aZ h;refine⟨by omega,by rw[bA,bL],by omega,by omega,cK.cons _,e6,by rw[fK,fI,bd (Ne.symm GM)],fun x ab k2=>?_,fun x=>?_,y::pre,by rw[uM];rfl,r5⟩
    ·by_cases fT:x∈l
     ·exact kV x fT k2
     ·have eM:x=y:=by simp at ab;rcases ab with q|q;exact q;exact absurd q fT
      rcases nR x with q|q
      ·rw[q,fI,bj eM]
      ·exact q.1
    ·rcases nR x with q|q
     ·rw[fI] at q;split at q
      ·rename_i eM;exact .inr ⟨q,by simp[eM]⟩
      ·exact .inl q
     ·exact .inr ⟨q.1,by simp[q.2]⟩
end
end
end Go.Cre
namespace Go.Cre
noncomputable section
open Go.RowKit
def qI(c:Array Value)(n:Nat):List Value->Array Value
 |[]=>c
 |v::vs=>qI (c.setIfInBounds n v) (n+1) vs
theorem RL(vs:List Value):∀(c:Array Value) (n:Nat),(qI c n vs).size=c.size:=by
 induction vs with
 |nil=>intro c n;rfl
 |cons v vs aZ=>intro c n;rw[qI,aZ];simp
theorem LI(vs:List Value):∀(c:Array Value) (n i:Nat),n+vs.length<=c.size->(qI c n vs)[i]?=if n<=i/\i<n+vs.length then vs[i -n]? else c[i]?:=by
 induction vs with
 |nil=>intro c n i h;simp[qI];omega
 |cons v vs aZ=>
  intro c n i h;simp only[lP] at h;rw[qI,aZ _ _ _ (by simp;omega)];rw[zB];by_cases ad:n=i
  ·subst ad;rw[bd (by omega),bj rfl,bj (by omega),bj (by simp)];simp
  ·by_cases af:n+1<=i/\i<n+1+vs.length
   ·rw[bj af,bj (by simp;omega)];rw[show i -n=(i -(n+1))+1 from by omega,SY]
   ·rw[bd af,bd ad,bd (by simp;omega)]
theorem alR(v:Value):v.oneCell'=ff v:=by cases v<;>rfl
theorem Addr.qZ(b o i:Nat):(⟨b,o,none⟩:Addr).add i=⟨b,o+i,none⟩:=by
 unfold Addr.add;split<;>simp_all
section
variable {P:Program}
theorem cell_of_row{w:World}{r:Nat}{c:Array Value}{e:TypeId}{f:Nat×Nat}(h:w.heap[r]?=some (.cells c e f))(o:Nat):w.cell? ⟨r,o,none⟩=c[o]?:=by
 simp[World.cell?,h]
theorem frozen_of_row{w:World}{r:Nat}{c:Array Value}{e:TypeId}{f:Nat×Nat}(h:w.heap[r]?=some (.cells c e f))(o:Nat):w.frozen? ⟨r,o,none⟩=(decide (f.1<=o)&&decide (o<f.2)):=by
 simp[World.frozen?,h]
theorem Zu{w:World}{r:Nat}{c:Array Value}{e:TypeId}{f:Nat×Nat}(h:w.heap[r]?=some (.cells c e f))(o:Nat)(v:Value):
 w.setCell ⟨r,o,none⟩ v={w with heap:=w.heap.setIfInBounds r (.cells (c.setIfInBounds o v) e f)}:=by
 have av:r<w.heap.size:=by
  rcases iK r w.heap.size with c9|c9
  ·exact c9
  ·rw[s5 c9] at h;cases h
 unfold World.setCell;congr 1
 apply El
 intro i;rw[aa1,zB];by_cases ar:r=i
 ·subst ar;rw[bj rfl,bj rfl,h,bj av];rfl
 ·simp[ar]
theorem Zm(r off:Nat)(e:TypeId)(f:Nat×Nat):∀(vs:List Value) (i:Nat) (c:Array Value) (w:World),w.heap[r]?=some (.cells c e f)->off+i+vs.length<=c.size->
 (∀j,j<vs.length->¬(f.1<=off+i+j/\off+i+j<f.2))->(∀v∈vs,ff v=true)->
 (storeCells ⟨r,off,none⟩ vs i).run P w=.ok () {w with heap:=w.heap.setIfInBounds r (.cells (qI c (off+i) vs) e f)}:=by
 intro vs;induction vs with
 |nil=>
  intro i c w h _ _ _;have av:r<w.heap.size:=by
   rcases iK r w.heap.size with c9|c9
   ·exact c9
   ·rw[s5 c9] at h;cases h
  have:w.heap.setIfInBounds r (.cells c e f)=w.heap:=by
   apply El
   intro j;rw[zB];split
   ·rename_i bf;subst bf;exact h.symm
   ·rfl
  simp[storeCells,qI,this]
 |cons v vs aZ=>
  intro i c w h aD aM ad;simp only[lP] at aD aM;have av:r<w.heap.size:=by
   rcases iK r w.heap.size with c9|c9
   ·exact c9
   ·rw[s5 c9] at h;cases h
  have dR:(store ((⟨r,off,none⟩:Addr).add i) v).run P w=.ok () (w.setCell ⟨r,off+i,none⟩ v):=by
   rw[Addr.qZ,run_store P w _ v _ (by rw[alR];exact ad v (by simp))];have aL:=aM 0 (by omega);have aJ:w.cell? ⟨r,off+i,none⟩=some (c[off+i]'(by omega)):=by
    rw[cell_of_row h,zA (by omega)]
   have Kv:w.frozen? ⟨r,off+i,none⟩=false:=by
    rw[frozen_of_row h];simp only[iI] at aL;by_cases q:f.1<=off+i
    ·have:¬(off+i<f.2):=fun x=>aL ⟨q,x⟩;simp[this]
    ·simp[q]
   simp[aJ,Kv]
  have hw:(w.setCell ⟨r,off+i,none⟩ v).heap[r]?=some (.cells (c.setIfInBounds (off+i) v) e f):=by
   rw[Zu h];show(w.heap.setIfInBounds r _)[r]?=_;rw[zB];simp[av]
  have:=aZ (i+1) (c.setIfInBounds (off+i) v) (w.setCell ⟨r,off+i,none⟩ v) hw (by simp;omega) (fun j bf=>by
   have:=aM (j+1) (by omega);rwa [show off+i+(j+1)=off+(i+1)+j from by omega] at this) (fun x ab=>ad x (by simp[ab]))
  simp only[storeCells,Sem.run_bind,dR,Result.andThen_ok,this,qI];rw[Zu h,show off+(i+1)=off+i+1 from by omega];congr 2
  show(w.heap.setIfInBounds r _).setIfInBounds r _=_;apply El
  intro j;simp only[zB,Ir];split<;>rfl
variable {B:Nat->Prop}{w0 w:World}{μ:b5}{H H':aw}
theorem U3{N ey:Nat}{sh:Bool}{f:Nat×Nat}(h:NW N ey sh f){o:Nat}(aj:o<N)(aL:ey<=o):¬(f.1<=o/\o<f.2):=fun q=>by
 have:=h.1 o aj q.1 q.2;omega
theorem cd.aaP(h:cd P B w0 μ H w){id bP ey NX:Nat}{L:Loc}{cells cells':List Value}{elem:TypeId}{opn sh:Bool}{o':Obj}{H1:aw}(bB:μ id=some L)(rc:H.bU<=id)(hm:H.mem.get id=some (.row cells elem opn bP ey sh))
 (s1:cells'.length=cells.length)(hu:H.upd id (.row cells' elem opn bP NX sh)=some H1)(he:(bif opn then y0 H1 id bP else some H1)=some H')(ak:j5 P μ L (.row cells' elem opn bP NX sh) o'):
 cd P B w0 μ H' {w with heap:=w.heap.setIfInBounds L.r o'}/\Step μ μ H H':=by
 obtain⟨u1,cm,xV,BH,sY⟩:=aw.xX hu;have vi:H.mem.get id≠some .dead:=by rw[hm];simp
 cases opn with
 |false=>
  simp only[dB] at he;injection he with he;subst he
  refine h.write bB rc vi u1 xV BH (by rw[sY];simp) (fun x ab=>.inl (by rw[sY,bd ab])) ?_ (fun f l aD=>.inl (by rw[cm];exact aD)) (fun f l aD=>.inl (by rw[<-cm];exact aD))
   (fun c e f z s q=>by injection q with _ _ q;cases q) (fun q=>by rw[hm] at q;simp[kw] at q) ak
  intro x b8 ab u6 av;rcases h.sep id x L b8 (Ne.symm ab) bB u6 av.symm with d|d|⟨f',l,⟨bH,aC,du,LD,q⟩,_⟩
  ·exact absurd d vi
  ·rw[sY,bd ab];exact d
  ·rw[hm] at q;injection q with q;injection q with _ _ q;cases q
 |true=>
  simp only[cv] at he;unfold y0 at he;cases aM:H1.bP.get bP with
  |none=>rw[aM] at he;cases he
  |some l=>
   rw[aM] at he;simp only at he;cases hk:sG H1 id l with
   |none=>rw[hk] at he;cases he
   |some cz=>
    rw[hk] at he;simp only at he;obtain⟨a7,a0,bJ,cO,gj,jJ⟩:=KE hk;obtain⟨ck,ch,c6,gg,gh⟩:=aw.D3 he;have oJ:H.bP.get bP=some l:=by rw[<-cm];exact aM
    have ve:H'.mem.get id=some (.row cells' elem true bP NX sh):=by rw[ch,jJ id (.inr rfl),sY];simp
    have Wj:∀x,x≠id->x∉l->H'.mem.get x=H.mem.get x:=fun x ab k2=>by rw[ch,jJ x (.inl k2),sY,bd ab]
    have yO:∀x,x≠id->x∈l->H'.mem.get x=some .dead:=fun x ab k2=>by rw[ch];exact gj x k2 ab
    refine h.write bB rc vi (by omega) (by omega) (by omega) ve ?_ ?_ ?_ ?_ ?_ (fun _=>rfl) ak
    ·intro x ab;by_cases k2:x∈l
     ·exact .inr ⟨yO x ab k2,(h.lq bP l x oJ k2).2⟩
     ·exact .inl (Wj x ab k2)
    ·intro x b8 ab u6 av;rcases h.sep id x L b8 (Ne.symm ab) bB u6 av.symm with d|d|⟨f',l',⟨bH,aC,du,LD,q⟩,_,dL,_,fq⟩
     ·exact absurd d vi
     ·by_cases k2:x∈l
      ·exact yO x ab k2
      ·rw[Wj x ab k2];exact d
     ·rw[hm] at q;injection q with q;injection q with _ _ _ q;subst q
      rw[oJ] at dL;injection dL with dL;subst dL
      exact yO x ab fq
    ·intro f' l' dL;by_cases qn:f'=bP
     ·subst qn;rw[oJ] at dL;injection dL with dL;subst dL
      right
      intro x y ab aB eM;by_cases j0:x=id
      ·right;exact yO y (fun e=>eM (by rw[j0,e])) aB
      ·left;exact yO x j0 ab
     ·left;rw[gh,bd qn,a0,cm];exact dL
    ·intro f' l' dL;rw[gh] at dL;split at dL
     ·injection dL with dL;right;exact⟨dL.symm,rfl⟩
     ·left;rw[a0,cm] at dL;exact dL
    ·intro bH aC f1 du LD q;injection q with iq _ _ q;subst q;subst iq
     exact⟨_,_,_,_,hm,s1.symm⟩
theorem JB(h:cd P B w0 μ H w){id off:Nat}{L:Loc}{vs nf:List Value}(bB:μ id=some L)(az:ca μ vs nf)(he:se H id off vs=some H'):
 ∃bn,(storeCells ⟨L.r,off,none⟩ nf).run P w=.ok () bn/\cd P B w0 μ H' bn/\Step μ μ H H':=by
 unfold se at he;cases vs with
 |nil=>
  injection he with he;subst he
  have:=az.k5;subst this;exact⟨w,rfl,h,Step.refl _ _⟩
 |cons v0 aaH=>
  simp only at he;generalize WI:v0::aaH=vs at*;cases aF:Nat.blt id H.bU with
  |true=>rw[aF] at he;cases he
  |false=>
   rw[aF,dB] at he;have rc:H.bU<=id:=by
    have:¬id<H.bU:=fun q=>by have:=mU q;unfold Nat.blt at aF;simp_all
    omega
   cases hm:H.mem.get id with
   |none=>rw[hm] at he;cases he
   |some b=>
    rw[hm] at he;cases b with
    |row cells elem opn bP ey sh=>
     simp only at he;cases aJ:(Nat.ble ey off&&vs.all ff) with
     |false=>rw[aJ] at he;cases he
     |true=>
      rw[aJ,cv] at he;simp only[gI] at aJ;have F4:=hZ aJ.1;cases ag:gw off cells vs with
      |none=>rw[ag] at he;cases he
      |some cells'=>
       rw[ag] at he;simp only at he;cases hu:H.upd id (.row cells' elem opn bP ey sh) with
       |none=>rw[hu] at he;cases he
       |some H1=>
        rw[hu] at he;simp only at he;obtain⟨s1,s2,hK⟩:=RN ag;obtain⟨b,o,aX,aU,b0⟩:=h.gf id L bB;rw[hm] at aX;injection aX with aX;subst aX
        cases o with
        |cells c e f=>
         obtain⟨dQ,ee,fB,iD,ue,Lv,HN⟩:=b0;have lA:=az.1;have gZ:=Zm (P:=P) L.r off e f nf 0 c w aU (by omega) (fun j bf=>by
          simp only[iI];exact U3 HN (by omega) (by omega)) (fun v qv=>by
          obtain⟨i,ar⟩:=zJ.1 qv;have C0:i<vs.length:=by
           have:=(gS.1 ar).1;omega
          have:=az.2 i vs[i] v (eE C0) ar;rw[this.ff];exact uE.1 aJ.2 _ (List.getElem_mem C0))
         simp only[iI] at gZ;have ak:j5 P μ L (.row cells' elem opn bP ey sh) (.cells (qI c off nf) e f):=by
          refine⟨dQ,by rw[RL];exact ee,fB,by omega,fun aj=>by have:=ue aj;omega,?_,HN⟩;intro i v v' ar lZ;rw[LI _ _ _ _ (by omega)] at lZ;rw[hK] at ar;rw[<-lA] at lZ;split at ar
          ·rename_i tC;rw[bj tC] at lZ;exact az.2 _ v v' ar lZ
          ·rename_i tC;rw[bd tC] at lZ;exact Lv i v v' ar lZ
         exact⟨_,gZ,h.aaP bB rc hm s1 hu he ak⟩
        |_=>exact b0.elim
    |_=>cases he
end
end
end Go.Cre

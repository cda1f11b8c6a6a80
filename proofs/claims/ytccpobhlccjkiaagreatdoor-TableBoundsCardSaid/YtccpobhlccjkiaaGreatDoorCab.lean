/- A part of the proof of TableBounds. -/
import Derived.Test.YtccpobhlccjkiaaGreatDoorCaa
import Derived.Laws.Append
import Derived.Laws.AppendOwn
import Derived.Laws.IdiomCopy
import Derived.Laws.MakeOwn
set_option linter.defProp false
set_option linter.unusedVariables false
set_option linter.unusedSimpArgs false
namespace Go.Cre
noncomputable section
open Go.RowKit
def R6(N ek:Nat)(sh:Bool)(f:Nat×Nat):Prop:=(∀off,off<N->f.1<=off->off<f.2->off<ek)/\(sh=false->f.1=f.2\/f.2<=ek)
inductive x5 (μ:bU):List MapEntry->List MapEntry->Prop
 |nil:x5 μ [] []
 |cons (e bA:MapEntry) (es oM:List MapEntry):bA.key=e.key->plain e.key=true->bk μ e.val bA.val->x5 μ es oM->x5 μ (e::es) (bA::oM)
def Bq(μ:bU)(es oM:List MapEntry):Prop:=∃l,l.Perm oM/\x5 μ es l
def x5.mono{μ bh:bU}{l m:List MapEntry}(h:x5 μ l m)(e:Ext μ bh):x5 bh l m:=by
 induction h with
 |nil=>exact .nil
 |cons a b es oM ae ag aE _ aC=>exact .cons a b es oM ae ag (aE.mono e) aC
def x5.length{μ:bU}{l m:List MapEntry}(h:x5 μ l m):l.length=m.length:=by
 induction h with
 |nil=>rfl
 |cons a b es oM ae ag aE _ aC=>simp[aC]
def Bq.length{μ:bU}{l m:List MapEntry}(h:Bq μ l m):l.length=m.length:=by
 obtain⟨k,ae,ag⟩:=h;rw[ag.length,ae.length_eq]
def Bq.nil(μ:bU):Bq μ [] []:=⟨[],.refl _,.nil⟩
def lj(μ:bU)(T:aZ Value)(n:Nat)(tmps:Array Value):Prop:=n<=tmps.size/\∀t v,T.get t=some v->bk μ v (tmps.getD t undef)
def kP(P:Program)(μ:bU)(L:Loc):fP->Obj->Prop
 |.row cells elem opn _ ek sh,.cells c e f=>e=elem/\c.size=L.N/\P.cellsOf elem=L.sz/\cells.length<=L.N/\(opn=false->cells.length=L.N)/\
  (∀(i:Nat) v v',cells[i]?=some v->c[i]?=some v'->bk μ v v')/\R6 L.N ek sh f
 |.map es _,.map oM _=>Bq μ es oM.toList
 |.loop l,.loop a9=>a9.state=l.state/\a9.pending=l.pending/\a9.params.toList=l.params/\a9.assign=l.assign/\a9.body=l.body/\lj μ l.T l.n a9.tmps/\∃bM,μ l.g6=some bM/\a9.defers=bM.r/\∃fn,P.funcs[a9.fn]?=some fn
 |.g6 ds,.deferred fy=>fy=ds/\(ds=some []\/ds=none)
 |.dead,_=>True
 |_,_=>False
def lj.mono{μ bh:bU}{T:aZ Value}{n:Nat}{tmps:Array Value}(h:lj μ T n tmps)(e:Ext μ bh):lj bh T n tmps:=⟨h.1,fun t v x=>(h.2 t v x).mono e⟩
def kP.mono{P:Program}{μ bh:bU}{L:Loc}{b:fP}{o:Obj}(h:kP P μ L b o)(e:Ext μ bh):kP P bh L b o:=by
 cases b with
 |row cells elem opn bF ek sh=>
  cases o with
  |cells c bA f=>obtain⟨ae,ag,aE,a6,dK,ga,mx⟩:=h;exact⟨ae,ag,aE,a6,dK,fun i v v' a b=>(ga i v v' a b).mono e,mx⟩
  |_=>exact h
 |map es clock=>
  cases o with
  |map oM Mi=>obtain⟨l,ae,ag⟩:=h;exact⟨l,ae,ag.mono e⟩
  |_=>exact h
 |loop l=>
  cases o with
  |loop a9=>obtain⟨ae,ag,aE,a6,dK,ga,bM,mx,yF⟩:=h;exact⟨ae,ag,aE,a6,dK,ga.mono e,bM,e _ _ mx,yF⟩
  |_=>exact h
 |g6 ds=>
  cases o with
  |deferred fy=>exact h
  |_=>exact h
 |dead=>cases o<;>trivial
def lr:Option fP->Bool
 |some (.row _ _ opn _ _ _)=>opn
 |_=>false
def zc(H:aw)(id f:Nat):Prop:=∃c e z s,H.mem.get id=some (.row c e true f z s)
def Xp(H:aw)(id nx:Nat):Prop:=
 H.mem.get id=some .dead\/H.mem.get nx=some .dead\/∃f l,zc H id f/\zc H nx f/\H.bF.get f=some l/\id∈l/\nx∈l
def Qo(H:aw)(l:List Nat):Prop:=
 l.Pairwise fun x y=>∀c e f z s c' bA ck h8 de,H.mem.get x=some (.row c e true f z s)->H.mem.get y=some (.row c' bA true ck h8 de)->c'.length<=c.length
structure Kept (B:Nat->Prop) (w a':World):Prop where
 os:a'.os=w.os
 tape:a'.tape=w.tape
 output:a'.output=w.output
 size:w.heap.size<=a'.heap.size
 block:∀k,B k->a'.heap[k]?=w.heap[k]?
def Kept.refl(B:Nat->Prop)(w:World):Kept B w w:=⟨I,I,I,b2 _,fun _ _=>rfl⟩
def Kept.trans{B:Nat->Prop}{a b c:World}(h:Kept B a b)(k:Kept B b c):Kept B a c:=
 ⟨k.os.trans h.os,k.tape.trans h.tape,k.output.trans h.output,dT h.size k.size,fun i hi=>(k.block i hi).trans (h.block i hi)⟩
def Kept.drew{B:Nat->Prop}{a w:World}(h:Kept B a w):Kept B a w.drew:=⟨h.os,h.tape,h.output,h.size,h.block⟩
def Kept.alloc{B:Nat->Prop}{a w:World}(h:Kept B a w)(du:∀k,B k->k<w.heap.size)(o:Obj):Kept B a (w.alloc o):=
 h.trans ⟨I,I,I,by simp,fun k hk=>Below.heap_alloc _ _ _ (du k hk)⟩
def Kept.below{n:Nat}{w a':World}(h:Kept (fun k=>k<n) w a'):Below n w a':=⟨h.os,h.tape,h.output,h.size,h.block⟩
def Kept.avr{n:Nat}{B:Nat->Prop}{w a':World}(h:Below n w a')(du:∀k,B k->k<n):Kept B w a':=⟨h.os,h.tape,h.output,h.size,fun k hk=>h.block k (du k hk)⟩
structure bZ (P:Program) (B:Nat->Prop) (w0:World) (μ:bU) (H:aw) (w:World):Prop where
 below:Kept B w0 w
 ph:∀k,B k->k<w.heap.size
 gS:∀id L,μ id=some L->∃b o,H.mem.get id=some b/\w.heap[L.r]?=some o/\kP P μ L b o
 sep:∀id nx L bM,id≠nx->μ id=some L->μ nx=some bM->L.r=bM.r->Xp H id nx
 lt:∀id L,μ id=some L->id<H.ao
 own:∀id L,μ id=some L->id<H.bJ->L.r=id
 new:∀id L,μ id=some L->H.bJ<=id->H.mem.get id≠some .dead->¬B L.r
 vd:∀g c e o f z s,g<H.bJ->H.mem.get g=some (.row c e o f z s)->∃L,μ g=some L
 lH:H.bJ<=H.ao
 sw:∀id c e f z s,H.mem.get id=some (.row c e true f z s)->f<H.cC
 mv:∀f l x,H.bF.get f=some l->x∈l->x<H.ao/\(lr (H.mem.get x)=true\/H.mem.get x=some .dead)
 wZ:∀f l,H.bF.get f=some l->Qo H l
structure Step (μ bh:bU) (H H':aw):Prop where
 ext:Ext μ bh
 ao:H.ao<=H'.ao
 bJ:H'.bJ=H.bJ
 fU:∀id,id<H.ao->μ id=none->bh id=none/\(lr (H.mem.get id)=false->H'.mem.get id=H.mem.get id)
def Step.refl(μ:bU)(H:aw):Step μ μ H H:=⟨Ext.refl μ,b2 _,I,fun _ _ h=>⟨h,fun _=>rfl⟩⟩
def Step.trans{μ fO kp:bU}{H H1 bT:aw}(h:Step μ fO H H1)(k:Step fO kp H1 bT):Step μ kp H bT:=
 ⟨h.ext.trans k.ext,dT h.ao k.ao,k.bJ.trans h.bJ,fun id hi aA=>by
  obtain⟨a,b⟩:=h.fU id hi aA;obtain⟨c,d⟩:=k.fU id (kw hi h.ao) a;exact⟨c,fun al=>by rw[d (by rw[b al];exact al),b al]⟩⟩
def aw.r7{H H':aw}{id:Nat}{b:fP}(h:H.upd id b=some H'):H'.ao=H.ao/\H'.bF=H.bF/\H'.cC=H.cC/\H'.bJ=H.bJ/\∀m,H'.mem.get m=if m=id then some b else H.mem.get m:=by
 obtain⟨mem,ao,bF,cC,bJ⟩:=H;simp only[aw.upd] at h;cases ap:aZ.put b mem id with
 |none=>rw[ap] at h;cases h
 |some m=>rw[ap] at h;injection h with h;subst h;exact⟨I,I,I,I,aZ.get_put ap⟩
def aw.p4{H H':aw}{id:Nat}{b:fP}(h:H.new b=some (id,H')):id=H.ao/\H'.ao=H.ao+1/\H'.bF=H.bF/\H'.cC=H.cC/\H'.bJ=H.bJ/\∀m,H'.mem.get m=if m=H.ao then some b else H.mem.get m:=by
 obtain⟨mem,ao,bF,cC,bJ⟩:=H;simp only[aw.new] at h;cases ap:aZ.put b mem ao with
 |none=>rw[ap] at h;cases h
 |some m=>
  rw[ap] at h;simp only[aw.Vo,aw.aee,cb,c8] at h;obtain⟨rfl,rfl⟩:=h;exact⟨I,I,I,I,I,aZ.get_put ap⟩
def aw.Gj{H H':aw}{f:Nat}{l:List Nat}(h:H.td f l=some H'):H'.ao=H.ao/\H'.mem=H.mem/\H'.cC=H.cC/\H'.bJ=H.bJ/\∀m,H'.bF.get m=if m=f then some l else H.bF.get m:=by
 obtain⟨mem,ao,bF,cC,bJ⟩:=H;simp only[aw.td] at h;cases ap:aZ.put l bF f with
 |none=>rw[ap] at h;cases h
 |some m=>rw[ap] at h;injection h with h;subst h;exact⟨I,I,I,I,aZ.get_put ap⟩
def aw.Ot{H H':aw}{f:Nat}(h:H.xC=some (f,H')):f=H.cC/\H'.ao=H.ao/\H'.mem=H.mem/\H'.cC=H.cC+1/\H'.bJ=H.bJ/\∀m,H'.bF.get m=if m=H.cC then some [H.ao] else H.bF.get m:=by
 obtain⟨mem,ao,bF,cC,bJ⟩:=H;simp only[aw.xC] at h;cases ap:aZ.put [ao] bF cC with
 |none=>rw[ap] at h;cases h
 |some m=>
  rw[ap] at h;simp only[aw.Vp,aw.aef,cb,c8] at h;obtain⟨rfl,rfl⟩:=h;exact⟨I,I,I,I,I,aZ.get_put ap⟩
def bU.put(μ:bU)(id:Nat)(L:Loc):bU:=fun x=>if x=id then some L else μ x
def bU.k9(μ:bU)(id:Nat)(L:Loc):μ.put id L id=some L:=by simp[bU.put]
def bU.vT(μ:bU){id x:Nat}(L:Loc)(h:x≠id):μ.put id L x=μ x:=by simp[bU.put,h]
section
variable {P:Program}{B:Nat->Prop}{w0 w:World}{μ:bU}{H H':aw}
def bZ.aen(h:bZ P B w0 μ H w):μ H.ao=none:=by
 cases U:μ H.ao with
 |none=>rfl
 |some L=>have:=h.lt _ _ U;omega
def bZ.wY(h:bZ P B w0 μ H w)(L:Loc):Ext μ (μ.put H.ao L):=fun id bM U=>by
 by_cases e:id=H.ao
 ·subst e;rw[h.aen] at U;cases U
 ·rw[bU.vT _ _ e];exact U
def bZ.drew(h:bZ P B w0 μ H w):bZ P B w0 μ H w.drew:=
 ⟨h.below.drew,h.ph,h.gS,h.sep,h.lt,h.own,h.new,h.vd,h.lH,h.sw,h.mv,h.wZ⟩
def bZ.drawn(h:bZ P B w0 μ H w)(n:Nat):bZ P B w0 μ H {w with drawn:=n}:=
 ⟨⟨h.below.os,h.below.tape,h.below.output,h.below.size,h.below.block⟩,h.ph,h.gS,h.sep,h.lt,h.own,h.new,h.vd,h.lH,h.sw,h.mv,h.wZ⟩
def E3(w:World)(o:Obj)(r:Nat):(w.alloc o).heap[r]?=if r=w.heap.size then some o else w.heap[r]?:=by
 show(w.heap.push o)[r]?=_;rw[Array.getElem?_push]
def bZ.adD(h:bZ P B w0 μ H w){b:fP}{o:Obj}{L:Loc}(aF:H'.ao=H.ao+1)(eT:H'.bJ=H.bJ)(cR:∀m,H'.mem.get m=if m=H.ao then some b else H.mem.get m)
 (TS:H.cC<=H'.cC)(pW:∀f l,H'.bF.get f=some l->H.bF.get f=some l\/(l=[H.ao]/\lr (some b)=true))(aqt:∀f l,f<H.cC->H.bF.get f=some l->H'.bF.get f=some l)
 (art:∀c e f z s,b=.row c e true f z s->f<H'.cC)(ar:L.r=w.heap.size)(ak:kP P (μ.put H.ao L) L b o):
 bZ P B w0 (μ.put H.ao L) H' (w.alloc o)/\Step μ (μ.put H.ao L) H H':=by
 have h7:=h.wY L;have ed:∀x bM,(μ.put H.ao L) x=some bM->x≠H.ao->μ x=some bM:=fun x bM a b=>by rwa [bU.vT _ _ b] at a
 have cI:∀x bM,μ x=some bM->bM.r<w.heap.size:=fun x bM U=>by
  obtain⟨b',o',_,al,_⟩:=h.gS x bM U;rcases ha bM.r w.heap.size with dB|dB
  ·exact dB
  ·rw[uG dB] at al;cases al
 refine⟨⟨h.below.alloc h.ph o,?_,?_,?_,?_,?_,?_,?_,?_,?_,?_,?_⟩,⟨h7,by omega,eT,?_⟩⟩
 ·intro k hk;have:=h.ph k hk;show k<(w.heap.push o).size;rw[Xs];omega
 ·intro x bM U;by_cases dD:x=H.ao
  ·subst dD;rw[bU.k9] at U;injection U with U;subst U
   exact⟨b,o,by rw[cR];simp,by rw[E3,ar];simp,ak⟩
  ·have gd:=ed x bM U dD;obtain⟨b',o',ae,ag,aE⟩:=h.gS x bM gd;exact⟨b',o',by rw[cR,aG dD];exact ae,by rw[E3,aG (by have:=cI x bM gd;omega)];exact ag,aE.mono h7⟩
 ·intro x y gU h3 eU U an pt;by_cases dD:x=H.ao
  ·subst dD;rw[bU.k9] at U;injection U with U;subst U
   have:=cI y h3 (ed y h3 an (Ne.symm eU));omega
  ·by_cases me:y=H.ao
   ·subst me;rw[bU.k9] at an;injection an with an;subst an
    have:=cI x gU (ed x gU U dD);omega
   ·rcases h.sep x y gU h3 eU (ed x gU U dD) (ed y h3 an me) pt with d|d|⟨f,l,⟨c,e,z,s,q⟩,⟨c',bA,h8,de,dE⟩,aj,cz,cX⟩
    ·exact .inl (by rw[cR,aG dD];exact d)
    ·exact .inr (.inl (by rw[cR,aG me];exact d))
    ·exact .inr (.inr ⟨f,l,⟨c,e,z,s,by rw[cR,aG dD];exact q⟩,⟨c',bA,h8,de,by rw[cR,aG me];exact dE⟩,aqt f l (h.sw _ _ _ _ _ _ q) aj,cz,cX⟩)
 ·intro x bM U;by_cases dD:x=H.ao
  ·omega
  ·have:=h.lt x bM (ed x bM U dD);omega
 ·intro x bM U aB;rw[eT] at aB;have dD:x≠H.ao:=by have:=h.lH;omega
  exact h.own x bM (ed x bM U dD) aB
 ·intro x bM U aB eb;rw[eT] at aB;by_cases dD:x=H.ao
  ·subst dD;rw[bU.k9] at U;injection U with U;subst U
   rw[ar];exact fun q=>DY _ (h.ph _ q)
  ·exact h.new x bM (ed x bM U dD) aB (by rw[cR,aG dD] at eb;exact eb)
 ·intro g c e o f z s aB hm;rw[eT] at aB;have pX:g≠H.ao:=by have:=h.lH;omega
  rw[cR,aG pX] at hm;obtain⟨bM,bi⟩:=h.vd g c e o f z s aB hm;exact⟨bM,h7 _ _ bi⟩
 ·rw[eT,aF];have:=h.lH;omega
 ·intro x c e f z s hm;rw[cR] at hm;split at hm
  ·injection hm with hm;exact art c e f z s hm
  ·exact kw (h.sw x c e f z s hm) TS
 ·intro f l x aj U;rcases pW f l aj with aj|⟨rfl,al⟩
  ·obtain⟨a,d⟩:=h.mv f l x aj U;have dD:x≠H.ao:=by omega
   refine⟨by omega,?_⟩;rw[cR,aG dD];exact d
  ·simp at U;subst U;exact⟨by omega,.inl (by rw[cR];simpa using al)⟩
 ·intro f l aj;rcases pW f l aj with aj|⟨rfl,_⟩
  ·refine(h.wZ f l aj).imp_of_mem ?_;intro x y U an eU c e f1 z s c' bA ck h8 de q dE;have gd:=(h.mv f l x aj U).1;have s0:=(h.mv f l y aj an).1;rw[cR,aG (by omega)] at q dE;exact eU c e _ z s c' bA ck h8 de q dE
  ·exact ais _ _
 ·intro x U kH;have dD:x≠H.ao:=by omega
  exact⟨by rw[bU.vT _ _ dD];exact kH,fun _=>by rw[cR,aG dD]⟩
def bZ.made(h:bZ P B w0 μ H w){id:Nat}{b:fP}{o:Obj}{L:Loc}(aA:H.new b=some (id,H'))(al:lr (some b)=false)(ar:L.r=w.heap.size)(ak:kP P (μ.put H.ao L) L b o):
 bZ P B w0 (μ.put H.ao L) H' (w.alloc o)/\Step μ (μ.put H.ao L) H H'/\id=H.ao:=by
 obtain⟨rfl,aF,aV,cj,eT,cR⟩:=aw.p4 aA;obtain⟨a,b⟩:=h.adD (H':=H') aF eT cR (by omega) (fun f l x=>.inl (by rw[<-aV];exact x)) (fun f l _ x=>by rw[aV];exact x) (fun c e f z s q=>by rw[q] at al;simp[lr] at al) ar ak;exact⟨a,b,I⟩
def bZ.U8(h:bZ P B w0 μ H w){id:Nat}{cells:List Value}{elem:TypeId}{sh:Bool}{o:Obj}{L:Loc}(aA:H.pA cells elem sh=some (id,H'))(ar:L.r=w.heap.size)
 (ak:∀f,kP P (μ.put H.ao L) L (.row cells elem true f 0 sh) o):
 bZ P B w0 (μ.put H.ao L) H' (w.alloc o)/\Step μ (μ.put H.ao L) H H'/\id=H.ao:=by
 unfold aw.pA at aA;cases ay:H.xC with
 |none=>rw[ay] at aA;cases aA
 |some p=>
  obtain⟨f,H1⟩:=p;rw[ay] at aA;obtain⟨rfl,ba,br,bG,cD,cN⟩:=aw.Ot ay;obtain⟨rfl,aF,aV,cj,eT,cR⟩:=aw.p4 aA
  obtain⟨x,y⟩:=h.adD (H':=H') (b:=.row cells elem true H.cC 0 sh) (o:=o) (L:=L) (by omega) (by rw[eT,cD]) (fun m=>by rw[cR,ba,br]) (by omega)
   (fun f l aj=>by
    rw[aV,cN] at aj;split at aj
    ·injection aj with aj;exact .inr ⟨aj.symm,I⟩
    ·exact .inl aj)
   (fun f l ay aj=>by rw[aV,cN,aG (by omega)];exact aj)
   (fun c e f z s q=>by injection q with _ _ _ q;omega) ar (ak _)
  exact⟨x,y,ba⟩
def bZ.write(h:bZ P B w0 μ H w){id:Nat}{L:Loc}{b':fP}{o':Obj}(bi:μ id=some L)(aB:H.bJ<=id)(xe:H.mem.get id≠some .dead)
 (aF:H'.ao=H.ao)(aV:H'.cC=H.cC)(cj:H'.bJ=H.bJ)(EA:H'.mem.get id=some b')
 (bS:∀x,x≠id->H'.mem.get x=H.mem.get x\/(H'.mem.get x=some .dead/\(lr (H.mem.get x)=true\/H.mem.get x=some .dead)))
 (am4:∀x bM,x≠id->μ x=some bM->bM.r=L.r->H'.mem.get x=some .dead)
 (RM:∀f l,H.bF.get f=some l->H'.bF.get f=some l\/∀x y,x∈l->y∈l->x≠y->H'.mem.get x=some .dead\/H'.mem.get y=some .dead)
 (H5:∀f l,H'.bF.get f=some l->H.bF.get f=some l\/(l=[id]/\lr (some b')=true))
 (eF:∀c e f z s,b'=.row c e true f z s->∃c' bA h8 de,H.mem.get id=some (.row c' bA true f h8 de)/\c'.length=c.length)
 (aca:lr (H.mem.get id)=true->lr (some b')=true)(ak:kP P μ L b' o'):
 bZ P B w0 μ H' {w with heap:=w.heap.setIfInBounds L.r o'}/\Step μ μ H H':=by
 have sM:∀x,H.mem.get x=some .dead->H'.mem.get x=some .dead:=fun x U=>by
  have c7:x≠id:=fun e=>xe (e▸U);rcases bS x c7 with q|q
  ·rw[q,U]
  ·exact q.1
 have pW:∀x f,zc H x f->H'.mem.get x=some .dead\/zc H' x f:=fun x f U=>by
  obtain⟨c,e,z,s,q⟩:=U;by_cases jV:x=id
  ·subst jV;right
   have al:=aca (by rw[q];rfl);cases b' with
   |row bb rA CQ f1 eH s1=>
    simp only[lr] at al;subst al;obtain⟨c',bA,h8,de,dE,_⟩:=eF bb rA f1 eH s1 I;rw[q] at dE;injection dE with dE;injection dE with _ _ _ axk;subst axk
    exact⟨bb,rA,eH,s1,EA⟩
   |_=>simp[lr] at al
  ·rcases bS x jV with p|p
   ·right;exact⟨c,e,z,s,by rw[p];exact q⟩
   ·left;exact p.1
 have SD:L.r<w.heap.size:=by
  obtain⟨b,o,_,al,_⟩:=h.gS id L bi;rcases ha L.r w.heap.size with dB|dB
  ·exact dB
  ·rw[uG dB] at al;cases al
 have MO:=h.new id L bi aB xe;have hN:∀r,({w with heap:=w.heap.setIfInBounds L.r o'}:World).heap[r]?=if r=L.r then some o' else w.heap[r]?:=fun r=>by
  show(w.heap.setIfInBounds L.r o')[r]?=_;rw[Bp];by_cases ar:L.r=r
  ·subst ar;simp[SD]
  ·rw[aG ar,aG (Ne.symm ar)]
 have mb:∀x c e f z s,H'.mem.get x=some (.row c e true f z s)->∃c' bA h8 de,H.mem.get x=some (.row c' bA true f h8 de)/\c'.length=c.length:=fun x c e f z s hm=>by
  by_cases jV:x=id
  ·subst jV;rw[EA] at hm;injection hm with hm
   exact eF c e f z s hm
  ·rcases bS x jV with q|q
   ·rw[q] at hm;exact⟨c,e,z,s,hm,I⟩
   ·rw[q.1] at hm;cases hm
 refine⟨⟨⟨h.below.os,h.below.tape,h.below.output,?_,?_⟩,?_,?_,?_,?_,?_,?_,?_,?_,?_,?_,?_⟩,⟨Ext.refl _,by omega,cj,?_⟩⟩
 ·show w0.heap.size<=(w.heap.setIfInBounds L.r o').size;rw[K7];exact h.below.size
 ·intro k hk;rw[hN,aG (fun e=>by subst e;exact MO hk)];exact h.below.block k hk
 ·intro k hk;show k<(w.heap.setIfInBounds L.r o').size;rw[K7];exact h.ph k hk
 ·intro x bM U;by_cases jV:x=id
  ·subst jV;rw[bi] at U;injection U with U;subst U
   exact⟨b',o',EA,by rw[hN];simp,ak⟩
  ·by_cases ar:bM.r=L.r
   ·exact⟨.dead,o',am4 x bM jV U ar,by rw[hN,aP ar],by simp[kP]⟩
   ·obtain⟨b,o,dj,ht,jx⟩:=h.gS x bM U;rcases bS x jV with q|q
    ·exact⟨b,o,by rw[q];exact dj,by rw[hN,aG ar];exact ht,jx⟩
    ·exact⟨.dead,o,q.1,by rw[hN,aG ar];exact ht,by cases o<;>simp[kP]⟩
 ·intro x y gU h3 eU U an pt;rcases h.sep x y gU h3 eU U an pt with d|d|⟨f,l,q,dE,aj,cz,cX⟩
  ·exact .inl (sM x d)
  ·exact .inr (.inl (sM y d))
  ·rcases pW x f q with d|q
   ·exact .inl d
   ·rcases pW y f dE with d|dE
    ·exact .inr (.inl d)
    ·rcases RM f l aj with dC|gD
     ·exact .inr (.inr ⟨f,l,q,dE,dC,cz,cX⟩)
     ·rcases gD x y cz cX eU with d|d
      ·exact .inl d
      ·exact .inr (.inl d)
 ·intro x bM U;rw[aF];exact h.lt x bM U
 ·intro x bM U gd;rw[cj] at gd;exact h.own x bM U gd
 ·intro x bM U gd eb;rw[cj] at gd;exact h.new x bM U gd fun q=>eb (sM x q)
 ·intro g c e o f z s yR hm;rw[cj] at yR;have c7:g≠id:=by omega
  rcases bS g c7 with q|q
  ·rw[q] at hm;exact h.vd g c e o f z s yR hm
  ·rw[q.1] at hm;cases hm
 ·rw[cj,aF];exact h.lH
 ·intro x c e f z s hm;rw[aV];by_cases jV:x=id
  ·subst jV;rw[EA] at hm;injection hm with hm
   obtain⟨c',bA,h8,de,dE,_⟩:=eF c e f z s hm;exact h.sw _ _ _ _ _ _ dE
  ·rcases bS x jV with q|q
   ·rw[q] at hm;exact h.sw x c e f z s hm
   ·rw[q.1] at hm;cases hm
 ·intro f l x aj U;rw[aF];rcases H5 f l aj with aj|⟨rfl,al⟩
  ·obtain⟨a,d⟩:=h.mv f l x aj U;refine⟨a,?_⟩;rcases d with d|d
   ·by_cases jV:x=id
    ·subst jV;left;rw[EA];exact aca d
    ·rcases bS x jV with q|q
     ·left;rw[q];exact d
     ·right;exact q.1
   ·right;exact sM x d
  ·simp at U;subst U;exact⟨h.lt _ _ bi,.inl (by rw[EA];exact al)⟩
 ·intro f l aj;rcases H5 f l aj with aj|⟨rfl,_⟩
  ·refine(h.wZ f l aj).imp ?_;intro x y eU c e f z s c' bA ck h8 de q dE;obtain⟨bb,rA,eH,s1,aN,aH⟩:=mb x c e f z s q;obtain⟨bt,aCR,eQ,s2,bo,db⟩:=mb y c' bA ck h8 de dE;have:=eU _ _ _ _ _ _ _ _ _ _ aN bo;omega
  ·exact ais _ _
 ·intro x U kH;refine⟨kH,fun al=>?_⟩;have jV:x≠id:=fun e=>by subst e;rw[bi] at kH;cases kH
  rcases bS x jV with q|q
  ·exact q
  ·rcases q.2 with r|r
   ·rw[al] at r;cases r
   ·rw[q.1,r]
def bZ.kill(h:bZ P B w0 μ H w)(aF:H'.ao=H.ao)(aV:H'.cC=H.cC)(cj:H'.bJ=H.bJ)
 (bS:∀x,H'.mem.get x=H.mem.get x\/(H'.mem.get x=some .dead/\(lr (H.mem.get x)=true\/H.mem.get x=some .dead)))
 (RM:∀f l,H.bF.get f=some l->∃a9,H'.bF.get f=some a9/\a9.Sublist l/\∀x,x∈l->x∉a9->H'.mem.get x=some .dead)
 (H5:∀f a9,H'.bF.get f=some a9->∃l,H.bF.get f=some l/\a9.Sublist l):
 bZ P B w0 μ H' w/\Step μ μ H H':=by
 have sM:∀x,H.mem.get x=some .dead->H'.mem.get x=some .dead:=fun x U=>by
  rcases bS x with q|q
  ·rw[q,U]
  ·exact q.1
 have pW:∀x f,zc H x f->H'.mem.get x=some .dead\/zc H' x f:=fun x f U=>by
  obtain⟨c,e,z,s,q⟩:=U;rcases bS x with p|p
  ·right;exact⟨c,e,z,s,by rw[p];exact q⟩
  ·left;exact p.1
 have mb:∀x c e f z s,H'.mem.get x=some (.row c e true f z s)->H.mem.get x=some (.row c e true f z s):=fun x c e f z s hm=>by
  rcases bS x with q|q
  ·rw[q] at hm;exact hm
  ·rw[q.1] at hm;cases hm
 refine⟨⟨h.below,h.ph,?_,?_,?_,?_,?_,?_,?_,?_,?_,?_⟩,⟨Ext.refl _,by omega,cj,?_⟩⟩
 ·intro x bM U;obtain⟨b,o,dj,ht,jx⟩:=h.gS x bM U;rcases bS x with q|q
  ·exact⟨b,o,by rw[q];exact dj,ht,jx⟩
  ·exact⟨.dead,o,q.1,ht,by cases o<;>simp[kP]⟩
 ·intro x y gU h3 eU U an pt;rcases h.sep x y gU h3 eU U an pt with d|d|⟨f,l,q,dE,aj,cz,cX⟩
  ·exact .inl (sM x d)
  ·exact .inr (.inl (sM y d))
  ·rcases pW x f q with d|q
   ·exact .inl d
   ·rcases pW y f dE with d|dE
    ·exact .inr (.inl d)
    ·obtain⟨a9,ae,_,aE⟩:=RM f l aj;by_cases nw:x∈a9
     ·by_cases CE:y∈a9
      ·exact .inr (.inr ⟨f,a9,q,dE,ae,nw,CE⟩)
      ·exact .inr (.inl (aE y cX CE))
     ·exact .inl (aE x cz nw)
 ·intro x bM U;rw[aF];exact h.lt x bM U
 ·intro x bM U gd;rw[cj] at gd;exact h.own x bM U gd
 ·intro x bM U gd eb;rw[cj] at gd;exact h.new x bM U gd fun q=>eb (sM x q)
 ·intro g c e o f z s yR hm;rw[cj] at yR;rcases bS g with q|q
  ·rw[q] at hm;exact h.vd g c e o f z s yR hm
  ·rw[q.1] at hm;cases hm
 ·rw[cj,aF];exact h.lH
 ·intro x c e f z s hm;rw[aV];exact h.sw x c e f z s (mb x c e f z s hm)
 ·intro f l x aj U;rw[aF];obtain⟨l0,ae,ag⟩:=H5 f l aj;obtain⟨a,d⟩:=h.mv f l0 x ae (ag.mem U);refine⟨a,?_⟩;rcases bS x with q|q
  ·rw[q];exact d
  ·right;exact q.1
 ·intro f l aj;obtain⟨l0,ae,ag⟩:=H5 f l aj;refine((h.wZ f l0 ae).sublist ag).imp ?_;intro x y eU c e f z s c' bA ck h8 de q dE;exact eU _ _ _ _ _ _ _ _ _ _ (mb _ _ _ _ _ _ q) (mb _ _ _ _ _ _ dE)
 ·intro x U kH;refine⟨kH,fun al=>?_⟩;rcases bS x with q|q
  ·exact q
  ·rcases q.2 with r|r
   ·rw[al] at r;cases r
   ·rw[q.1,r]
def age(h:bZ P B w0 μ H w){f:Nat}{l l0:List Nat}{cells:List Value}{elem:TypeId}{ek:Nat}{sh:Bool}(aj:H.bF.get f=some l0)(lM:l.Sublist l0)
 (cR:∀m,H'.mem.get m=if m=H.ao then some (.row cells elem true f ek sh) else H.mem.get m)
 (kX:∀m,H'.bF.get m=if m=f then some (H.ao::l) else H.bF.get m)(y2:∀y∈l,∀c e f z s,H.mem.get y=some (.row c e true f z s)->c.length<=cells.length):
 ∀ck a9,H'.bF.get ck=some a9->Qo H' a9:=by
 have aeB:∀ck a9,H.bF.get ck=some a9->Qo H' a9:=fun ck a9 dC=>by
  refine(h.wZ ck a9 dC).imp_of_mem ?_;intro x y U an eU c e f1 z s c' bA f2 h8 de q dE;have gd:=(h.mv ck a9 x dC U).1;have s0:=(h.mv ck a9 y dC an).1;rw[cR,aG (by omega)] at q dE;exact eU _ _ _ _ _ _ _ _ _ _ q dE
 intro ck a9 dC;rw[kX] at dC;split at dC
 ·injection dC with dC;subst dC
  refine List.pairwise_cons.2 ⟨fun y an c e f1 z s c' bA f2 h8 de q dE=>?_,(aeB f l0 aj).sublist lM⟩;have s0:=(h.mv f l0 y aj (lM.mem an)).1;rw[cR,aP I] at q;rw[cR,aG (by omega)] at dE;injection q with q;injection q with q;subst q
  exact y2 y an _ _ _ _ _ dE
 ·exact aeB ck a9 dC
def bZ.ae7(h:bZ P B w0 μ H w){f:Nat}{l l0:List Nat}{cells:List Value}{elem:TypeId}{ek:Nat}{sh:Bool}{o:Obj}{L:Loc}(aj:H.bF.get f=some l0)(lM:l.Sublist l0)(Jq:∀x,x∈l0->x∉l->H.mem.get x=some .dead)(ay:f<H.cC)
 (aF:H'.ao=H.ao+1)(aV:H'.cC=H.cC)(eT:H'.bJ=H.bJ)(cR:∀m,H'.mem.get m=if m=H.ao then some (.row cells elem true f ek sh) else H.mem.get m)
 (kX:∀m,H'.bF.get m=if m=f then some (H.ao::l) else H.bF.get m)(y2:∀y∈l,∀c e f z s,H.mem.get y=some (.row c e true f z s)->c.length<=cells.length)
 (ar:L.r=w.heap.size)(ak:kP P (μ.put H.ao L) L (.row cells elem true f ek sh) o):
 bZ P B w0 (μ.put H.ao L) H' (w.alloc o)/\Step μ (μ.put H.ao L) H H':=by
 have h7:=h.wY L;have ed:∀x bM,(μ.put H.ao L) x=some bM->x≠H.ao->μ x=some bM:=fun x bM a b=>by rwa [bU.vT _ _ b] at a
 have cI:∀x bM,μ x=some bM->bM.r<w.heap.size:=fun x bM U=>by
  obtain⟨b',o',_,al,_⟩:=h.gS x bM U;rcases ha bM.r w.heap.size with dB|dB
  ·exact dB
  ·rw[uG dB] at al;cases al
 refine⟨⟨h.below.alloc h.ph o,?_,?_,?_,?_,?_,?_,?_,?_,?_,?_,?_⟩,⟨h7,by omega,eT,?_⟩⟩
 ·intro k hk;have:=h.ph k hk;show k<(w.heap.push o).size;rw[Xs];omega
 ·intro x bM U;by_cases dD:x=H.ao
  ·subst dD;rw[bU.k9] at U;injection U with U;subst U
   exact⟨_,o,by rw[cR];simp,by rw[E3,ar];simp,ak⟩
  ·have gd:=ed x bM U dD;obtain⟨b',o',ae,ag,aE⟩:=h.gS x bM gd;exact⟨b',o',by rw[cR,aG dD];exact ae,by rw[E3,aG (by have:=cI x bM gd;omega)];exact ag,aE.mono h7⟩
 ·intro x y gU h3 eU U an pt;by_cases dD:x=H.ao
  ·subst dD;rw[bU.k9] at U;injection U with U;subst U
   have:=cI y h3 (ed y h3 an (Ne.symm eU));omega
  ·by_cases me:y=H.ao
   ·subst me;rw[bU.k9] at an;injection an with an;subst an
    have:=cI x gU (ed x gU U dD);omega
   ·rcases h.sep x y gU h3 eU (ed x gU U dD) (ed y h3 an me) pt with d|d|⟨ck,a9,⟨c,e,z,s,q⟩,⟨c',bA,h8,de,dE⟩,dC,cz,cX⟩
    ·exact .inl (by rw[cR,aG dD];exact d)
    ·exact .inr (.inl (by rw[cR,aG me];exact d))
    ·by_cases rG:ck=f
     ·subst rG;rw[aj] at dC;injection dC with dC;subst dC
      by_cases fl:x∈l
      ·by_cases hF:y∈l
       ·exact .inr (.inr ⟨ck,H.ao::l,⟨c,e,z,s,by rw[cR,aG dD];exact q⟩,⟨c',bA,h8,de,by rw[cR,aG me];exact dE⟩,by rw[kX];simp,by simp[fl],by simp[hF]⟩)
       ·exact .inr (.inl (by rw[cR,aG me];exact Jq y cX hF))
      ·exact .inl (by rw[cR,aG dD];exact Jq x cz fl)
     ·exact .inr (.inr ⟨ck,a9,⟨c,e,z,s,by rw[cR,aG dD];exact q⟩,⟨c',bA,h8,de,by rw[cR,aG me];exact dE⟩,by rw[kX,aG rG];exact dC,cz,cX⟩)
 ·intro x bM U;by_cases dD:x=H.ao
  ·omega
  ·have:=h.lt x bM (ed x bM U dD);omega
 ·intro x bM U aB;rw[eT] at aB;have dD:x≠H.ao:=by have:=h.lH;omega
  exact h.own x bM (ed x bM U dD) aB
 ·intro x bM U aB eb;rw[eT] at aB;by_cases dD:x=H.ao
  ·subst dD;rw[bU.k9] at U;injection U with U;subst U
   rw[ar];exact fun q=>DY _ (h.ph _ q)
  ·exact h.new x bM (ed x bM U dD) aB (by rw[cR,aG dD] at eb;exact eb)
 ·intro g c e o f z s aB hm;rw[eT] at aB;have pX:g≠H.ao:=by have:=h.lH;omega
  rw[cR,aG pX] at hm;obtain⟨bM,bi⟩:=h.vd g c e o f z s aB hm;exact⟨bM,h7 _ _ bi⟩
 ·rw[eT,aF];have:=h.lH;omega
 ·intro x c e ck z s hm;rw[cR] at hm;split at hm
  ·injection hm with hm;injection hm with _ _ _ hm;omega
  ·have:=h.sw x c e ck z s hm;omega
 ·intro ck a9 x dC U;rw[kX] at dC;split at dC
  ·injection dC with dC;subst dC
   simp at U;rcases U with U|U
   ·subst U;exact⟨by omega,.inl (by rw[cR];simp[lr])⟩
   ·obtain⟨a,d⟩:=h.mv f l0 x aj (lM.mem U);exact⟨by omega,by rw[cR,aG (by omega)];exact d⟩
  ·obtain⟨a,d⟩:=h.mv ck a9 x dC U;exact⟨by omega,by rw[cR,aG (by omega)];exact d⟩
 ·exact age h aj lM cR kX y2
 ·intro x U kH;have dD:x≠H.ao:=by omega
  exact⟨by rw[bU.vT _ _ dD];exact kH,fun _=>by rw[cR,aG dD]⟩
def bZ.aw2(h:bZ P B w0 μ H w){f id:Nat}{l l0:List Nat}{cells:List Value}{elem:TypeId}{ek:Nat}{sh:Bool}{o o':Obj}{L:Loc}(aj:H.bF.get f=some l0)(lM:l.Sublist l0)(Jq:∀x,x∈l0->x∉l->H.mem.get x=some .dead)(ay:f<H.cC)(bi:μ id=some L)(aB:H.bJ<=id)(MO:¬B L.r)
 (aF:H'.ao=H.ao+1)(aV:H'.cC=H.cC)(eT:H'.bJ=H.bJ)(cR:∀m,H'.mem.get m=if m=H.ao then some (.row cells elem true f ek sh) else H.mem.get m)
 (kX:∀m,H'.bF.get m=if m=f then some (H.ao::l) else H.bF.get m)(y2:∀y∈l,∀c e f z s,H.mem.get y=some (.row c e true f z s)->c.length<=cells.length)
 (xf:∀y bM,μ y=some bM->bM.r=L.r->H.mem.get y=some .dead\/(zc H y f/\y∈l/\∃b,H.mem.get y=some b/\kP P μ bM b o'))
 (ak:kP P μ L (.row cells elem true f ek sh) o'):
 bZ P B w0 (μ.put H.ao L) H' {w with heap:=w.heap.setIfInBounds L.r o'}/\Step μ (μ.put H.ao L) H H':=by
 have _:=o;have h7:=h.wY L;have ed:∀x bM,(μ.put H.ao L) x=some bM->x≠H.ao->μ x=some bM:=fun x bM a b=>by rwa [bU.vT _ _ b] at a
 have SD:L.r<w.heap.size:=by
  obtain⟨b,o,_,al,_⟩:=h.gS id L bi;rcases ha L.r w.heap.size with dB|dB
  ·exact dB
  ·rw[uG dB] at al;cases al
 have hN:∀r,({w with heap:=w.heap.setIfInBounds L.r o'}:World).heap[r]?=if r=L.r then some o' else w.heap[r]?:=fun r=>by
  show(w.heap.setIfInBounds L.r o')[r]?=_;rw[Bp];by_cases ar:L.r=r
  ·subst ar;simp[SD]
  ·rw[aG ar,aG (Ne.symm ar)]
 have nU:zc H' H.ao f:=⟨cells,elem,ek,sh,by rw[cR];simp⟩;have aqw:H'.bF.get f=some (H.ao::l):=by rw[kX];simp
 have side:∀y h3,y≠H.ao->μ y=some h3->h3.r=L.r->Xp H' H.ao y:=fun y h3 me an pt=>by
  rcases xf y h3 an pt with d|⟨⟨c,e,z,s,q⟩,m,_⟩
  ·exact .inr (.inl (by rw[cR,aG me];exact d))
  ·exact .inr (.inr ⟨f,_,nU,⟨c,e,z,s,by rw[cR,aG me];exact q⟩,aqw,by simp,by simp[m]⟩)
 refine⟨⟨⟨h.below.os,h.below.tape,h.below.output,?_,?_⟩,?_,?_,?_,?_,?_,?_,?_,?_,?_,?_,?_⟩,⟨h7,by omega,eT,?_⟩⟩
 ·show w0.heap.size<=(w.heap.setIfInBounds L.r o').size;rw[K7];exact h.below.size
 ·intro k hk;rw[hN,aG (fun e=>by subst e;exact MO hk)];exact h.below.block k hk
 ·intro k hk;show k<(w.heap.setIfInBounds L.r o').size;rw[K7];exact h.ph k hk
 ·intro x bM U;by_cases dD:x=H.ao
  ·subst dD;rw[bU.k9] at U;injection U with U;subst U
   exact⟨_,o',by rw[cR];simp,by rw[hN];simp,ak.mono h7⟩
  ·have gd:=ed x bM U dD;by_cases ar:bM.r=L.r
   ·rcases xf x bM gd ar with d|⟨_,_,b,aN,aH⟩
    ·exact⟨.dead,o',by rw[cR,aG dD];exact d,by rw[hN,aP ar],by cases o'<;>simp[kP]⟩
    ·exact⟨b,o',by rw[cR,aG dD];exact aN,by rw[hN,aP ar],aH.mono h7⟩
   ·obtain⟨b',CQ,ae,ag,aE⟩:=h.gS x bM gd;exact⟨b',CQ,by rw[cR,aG dD];exact ae,by rw[hN,aG ar];exact ag,aE.mono h7⟩
 ·intro x y gU h3 eU U an pt;by_cases dD:x=H.ao
  ·subst dD;rw[bU.k9] at U;injection U with U;subst U
   exact side y h3 (Ne.symm eU) (ed y h3 an (Ne.symm eU)) pt.symm
  ·by_cases me:y=H.ao
   ·subst me;rw[bU.k9] at an;injection an with an;subst an
    rcases side x gU dD (ed x gU U dD) pt with d|d|⟨ck,a9,q,dE,dC,cz,cX⟩
    ·exact .inr (.inl d)
    ·exact .inl d
    ·exact .inr (.inr ⟨ck,a9,dE,q,dC,cX,cz⟩)
   ·rcases h.sep x y gU h3 eU (ed x gU U dD) (ed y h3 an me) pt with d|d|⟨ck,a9,⟨c,e,z,s,q⟩,⟨c',bA,h8,de,dE⟩,dC,cz,cX⟩
    ·exact .inl (by rw[cR,aG dD];exact d)
    ·exact .inr (.inl (by rw[cR,aG me];exact d))
    ·by_cases rG:ck=f
     ·subst rG;rw[aj] at dC;injection dC with dC;subst dC
      by_cases fl:x∈l
      ·by_cases hF:y∈l
       ·exact .inr (.inr ⟨ck,H.ao::l,⟨c,e,z,s,by rw[cR,aG dD];exact q⟩,⟨c',bA,h8,de,by rw[cR,aG me];exact dE⟩,by rw[kX];simp,by simp[fl],by simp[hF]⟩)
       ·exact .inr (.inl (by rw[cR,aG me];exact Jq y cX hF))
      ·exact .inl (by rw[cR,aG dD];exact Jq x cz fl)
     ·exact .inr (.inr ⟨ck,a9,⟨c,e,z,s,by rw[cR,aG dD];exact q⟩,⟨c',bA,h8,de,by rw[cR,aG me];exact dE⟩,by rw[kX,aG rG];exact dC,cz,cX⟩)
 ·intro x bM U;by_cases dD:x=H.ao
  ·omega
  ·have:=h.lt x bM (ed x bM U dD);omega
 ·intro x bM U aB;rw[eT] at aB;have dD:x≠H.ao:=by have:=h.lH;omega
  exact h.own x bM (ed x bM U dD) aB
 ·intro x bM U aB eb;rw[eT] at aB;by_cases dD:x=H.ao
  ·subst dD;rw[bU.k9] at U;injection U with U;subst U
   exact MO
  ·exact h.new x bM (ed x bM U dD) aB (by rw[cR,aG dD] at eb;exact eb)
 ·intro g c e o f z s aB hm;rw[eT] at aB;have pX:g≠H.ao:=by have:=h.lH;omega
  rw[cR,aG pX] at hm;obtain⟨bM,bi⟩:=h.vd g c e o f z s aB hm;exact⟨bM,h7 _ _ bi⟩
 ·rw[eT,aF];have:=h.lH;omega
 ·intro x c e ck z s hm;rw[cR] at hm;split at hm
  ·injection hm with hm;injection hm with _ _ _ hm;omega
  ·have:=h.sw x c e ck z s hm;omega
 ·intro ck a9 x dC U;rw[kX] at dC;split at dC
  ·injection dC with dC;subst dC
   simp at U;rcases U with U|U
   ·subst U;exact⟨by omega,.inl (by rw[cR];simp[lr])⟩
   ·obtain⟨a,d⟩:=h.mv f l0 x aj (lM.mem U);exact⟨by omega,by rw[cR,aG (by omega)];exact d⟩
  ·obtain⟨a,d⟩:=h.mv ck a9 x dC U;exact⟨by omega,by rw[cR,aG (by omega)];exact d⟩
 ·exact age h aj lM cR kX y2
 ·intro x U kH;have dD:x≠H.ao:=by omega
  exact⟨by rw[bU.vT _ _ dD];exact kH,fun _=>by rw[cR,aG dD]⟩
def N2{qW:Nat}:∀{l:List Nat} {H H':aw},uc H qW l=some H'->H'.ao=H.ao/\H'.bF=H.bF/\H'.cC=H.cC/\H'.bJ=H.bJ/\
 (∀x,x∈l->x≠qW->H'.mem.get x=some .dead)/\(∀x,x∉l\/x=qW->H'.mem.get x=H.mem.get x):=by
 intro l;induction l with
 |nil=>intro H H' h;simp[uc] at h;subst h;exact⟨I,I,I,I,fun x U=>by simp at U,fun x _=>rfl⟩
 |cons y l aC=>
  intro H H' h;simp only[uc] at h;cases an:Nat.beq y qW with
  |true=>
   rw[an] at h;have JF:=eM an;obtain⟨ba,br,bG,cD,cN,ef⟩:=aC (by simpa using h);refine⟨ba,br,bG,cD,fun x U c7=>?_,fun x U=>?_⟩
   ·simp at U;rcases U with rfl|U
    ·exact absurd JF c7
    ·exact cN x U c7
   ·refine ef x ?_;rcases U with U|U
    ·left;simp at U;exact U.2
    ·right;exact U
  |false=>
   rw[an] at h;have JF:y≠qW:=fun e=>by subst e;simp at an
   simp only[dQ] at h;cases hu:H.upd y .dead with
   |none=>rw[hu] at h;cases h
   |some H1=>
    rw[hu] at h;obtain⟨bc,bl,b0,dp,fD⟩:=aw.r7 hu;obtain⟨ba,br,bG,cD,cN,ef⟩:=aC h;refine⟨by omega,by rw[br,bl],by omega,by omega,fun x U c7=>?_,fun x U=>?_⟩
    ·by_cases nw:x∈l
     ·exact cN x nw c7
     ·have eU:x=y:=by simp at U;rcases U with q|q;exact q;exact absurd q nw
      rw[ef x (.inl nw),fD,aP eU]
    ·have eU:x≠y:=by
      rcases U with q|q
      ·simp at q;exact q.1
      ·rw[q];exact Ne.symm JF
     have:x∉l\/x=qW:=by
      rcases U with q|q
      ·left;simp at q;exact q.2
      ·right;exact q
     rw[ef x this,fD,aG eU]
def alM{id:Nat}:∀{l a9:List Nat} {H H':aw},Af H id l=some (a9,H')->H'.ao=H.ao/\H'.bF=H.bF/\H'.cC=H.cC/\H'.bJ=H.bJ/\a9.Sublist l/\id∈a9/\H'.mem.get id=H.mem.get id/\
 (∀x,x∈l->x∉a9->H'.mem.get x=some .dead)/\(∀x,H'.mem.get x=H.mem.get x\/(H'.mem.get x=some .dead/\x∈l))/\(∃pre,l=pre++a9/\a9=id::a9.tail):=by
 intro l;induction l with
 |nil=>intro a9 H H' h;simp[Af] at h
 |cons y l aC=>
  intro a9 H H' h;simp only[Af] at h;cases an:Nat.beq y id with
  |true=>
   rw[an,cd] at h;simp only[cb,c8] at h;obtain⟨rfl,rfl⟩:=h;have:=eM an;subst this;exact⟨I,I,I,I,iC _,by simp,I,fun x a b=>absurd a b,fun x=>.inl I,[],I,I⟩
  |false=>
   rw[an,dQ] at h;have JF:y≠id:=fun e=>by subst e;simp at an
   cases hu:H.upd y .dead with
   |none=>rw[hu] at h;cases h
   |some H1=>
    rw[hu] at h;obtain⟨bc,bl,b0,dp,fD⟩:=aw.r7 hu;obtain⟨ba,br,bG,cD,cN,ef,fh,gw,hB,pre,rl,l1⟩:=aC h;refine⟨by omega,by rw[br,bl],by omega,by omega,cN.cons _,ef,by rw[fh,fD,aG (Ne.symm JF)],fun x U nw=>?_,fun x=>?_,y::pre,by rw[rl];rfl,l1⟩
    ·by_cases gd:x∈l
     ·exact gw x gd nw
     ·have eU:x=y:=by simp at U;rcases U with q|q;exact q;exact absurd q gd
      rcases hB x with q|q
      ·rw[q,fD,aP eU]
      ·exact q.1
    ·rcases hB x with q|q
     ·rw[fD] at q;split at q
      ·rename_i eU;exact .inr ⟨q,by simp[eU]⟩
      ·exact .inl q
     ·exact .inr ⟨q.1,by simp[q.2]⟩
end
def r6(c:Array Value)(n:Nat):List Value->Array Value
 |[]=>c
 |v::vs=>r6 (c.setIfInBounds n v) (n+1) vs
def Wu(vs:List Value):∀(c:Array Value) (n:Nat),(r6 c n vs).size=c.size:=by
 induction vs with
 |nil=>intro c n;rfl
 |cons v vs aC=>intro c n;rw[r6,aC];simp
def Pk(vs:List Value):∀(c:Array Value) (n i:Nat),n+vs.length<=c.size->(r6 c n vs)[i]?=if n<=i/\i<n+vs.length then vs[i -n]? else c[i]?:=by
 induction vs with
 |nil=>intro c n i h;simp[r6];omega
 |cons v vs aC=>
  intro c n i h;simp only[ks] at h;rw[r6,aC _ _ _ (by simp;omega)];rw[Bp];by_cases ae:n=i
  ·subst ae;rw[aG (by omega),aP I,aP (by omega),aP (by simp)];simp
  ·by_cases ag:n+1<=i/\i<n+1+vs.length
   ·rw[aP ag,aP (by simp;omega)];rw[show i -n=(i -(n+1))+1 from by omega,Ln]
   ·rw[aG ag,aG ae,aG (by simp;omega)]
def avA(v:Value):v.oneCell'=fx v:=by cases v<;>rfl
def Addr.so(b o i:Nat):(⟨b,o,none⟩:Addr).add i=⟨b,o+i,none⟩:=by
 unfold Addr.add;split<;>simp_all
section
variable {P:Program}
def cell_of_row{w:World}{r:Nat}{c:Array Value}{e:TypeId}{f:Nat×Nat}(h:w.heap[r]?=some (.cells c e f))(o:Nat):w.cell? ⟨r,o,none⟩=c[o]?:=by
 simp[World.cell?,h]
def frozen_of_row{w:World}{r:Nat}{c:Array Value}{e:TypeId}{f:Nat×Nat}(h:w.heap[r]?=some (.cells c e f))(o:Nat):w.frozen? ⟨r,o,none⟩=(decide (f.1<=o)&&decide (o<f.2)):=by
 simp[World.frozen?,h]
def af0{w:World}{r:Nat}{c:Array Value}{e:TypeId}{f:Nat×Nat}(h:w.heap[r]?=some (.cells c e f))(o:Nat)(v:Value):
 w.setCell ⟨r,o,none⟩ v={w with heap:=w.heap.setIfInBounds r (.cells (c.setIfInBounds o v) e f)}:=by
 have ar:r<w.heap.size:=by
  rcases ha r w.heap.size with dB|dB
  ·exact dB
  ·rw[uG dB] at h;cases h
 unfold World.setCell;congr 1
 apply GH
 intro i;rw[ah0,Bp];by_cases hi:r=i
 ·subst hi;rw[aP I,aP I,h,aP ar];rfl
 ·simp[hi]
def afQ(r off:Nat)(e:TypeId)(f:Nat×Nat):∀(vs:List Value) (i:Nat) (c:Array Value) (w:World),w.heap[r]?=some (.cells c e f)->off+i+vs.length<=c.size->
 (∀j,j<vs.length->¬(f.1<=off+i+j/\off+i+j<f.2))->(∀v∈vs,fx v=true)->
 (storeCells ⟨r,off,none⟩ vs i).run P w=.ok () {w with heap:=w.heap.setIfInBounds r (.cells (r6 c (off+i) vs) e f)}:=by
 intro vs;induction vs with
 |nil=>
  intro i c w h _ _ _;have ar:r<w.heap.size:=by
   rcases ha r w.heap.size with dB|dB
   ·exact dB
   ·rw[uG dB] at h;cases h
  have:w.heap.setIfInBounds r (.cells c e f)=w.heap:=by
   apply GH
   intro j;rw[Bp];split
   ·rename_i aW;subst aW;exact h.symm
   ·rfl
  simp[storeCells,r6,this]
 |cons v vs aC=>
  intro i c w h aj ay ae;simp only[ks] at aj ay;have ar:r<w.heap.size:=by
   rcases ha r w.heap.size with dB|dB
   ·exact dB
   ·rw[uG dB] at h;cases h
  have c4:(store ((⟨r,off,none⟩:Addr).add i) v).run P w=.ok () (w.setCell ⟨r,off+i,none⟩ v):=by
   rw[Addr.so,run_store P w _ v _ (by rw[avA];exact ae v (by simp))];have aR:=ay 0 (by omega);have ax:w.cell? ⟨r,off+i,none⟩=some (c[off+i]'(by omega)):=by
    rw[cell_of_row h,DD (by omega)]
   have NM:w.frozen? ⟨r,off+i,none⟩=false:=by
    rw[frozen_of_row h];simp only[pc] at aR;by_cases q:f.1<=off+i
    ·have:¬(off+i<f.2):=fun x=>aR ⟨q,x⟩;simp[this]
    ·simp[q]
   simp[ax,NM]
  have hw:(w.setCell ⟨r,off+i,none⟩ v).heap[r]?=some (.cells (c.setIfInBounds (off+i) v) e f):=by
   rw[af0 h];show(w.heap.setIfInBounds r _)[r]?=_;rw[Bp];simp[ar]
  have:=aC (i+1) (c.setIfInBounds (off+i) v) (w.setCell ⟨r,off+i,none⟩ v) hw (by simp;omega) (fun j aW=>by
   have:=ay (j+1) (by omega);rwa [show off+i+(j+1)=off+(i+1)+j from by omega] at this) (fun x U=>ae x (by simp[U]))
  simp only[storeCells,Sem.run_bind,c4,Result.andThen_ok,this,r6];rw[af0 h,show off+(i+1)=off+i+1 from by omega];congr 2
  show(w.heap.setIfInBounds r _).setIfInBounds r _=_;apply GH
  intro j;simp only[Bp,K7];split<;>rfl
variable {B:Nat->Prop}{w0 w:World}{μ:bU}{H H':aw}
def aas{N ek:Nat}{sh:Bool}{f:Nat×Nat}(h:R6 N ek sh f){o:Nat}(al:o<N)(aR:ek<=o):¬(f.1<=o/\o<f.2):=fun q=>by
 have:=h.1 o al q.1 q.2;omega
def bZ.ahI(h:bZ P B w0 μ H w){id bF ek R8:Nat}{L:Loc}{cells cells':List Value}{elem:TypeId}{opn sh:Bool}{o':Obj}{H1:aw}(bi:μ id=some L)(qK:H.bJ<=id)(hm:H.mem.get id=some (.row cells elem opn bF ek sh))
 (s1:cells'.length=cells.length)(hu:H.upd id (.row cells' elem opn bF R8 sh)=some H1)(he:(bif opn then AL H1 id bF else some H1)=some H')(ak:kP P μ L (.row cells' elem opn bF R8 sh) o'):
 bZ P B w0 μ H' {w with heap:=w.heap.setIfInBounds L.r o'}/\Step μ μ H H':=by
 obtain⟨fK,iO,mj,zF,uA⟩:=aw.r7 hu;have xe:H.mem.get id≠some .dead:=by rw[hm];simp
 cases opn with
 |false=>
  simp only[dQ] at he;injection he with he;subst he
  refine h.write bi qK xe fK mj zF (by rw[uA];simp) (fun x U=>.inl (by rw[uA,aG U])) ?_ (fun f l aj=>.inl (by rw[iO];exact aj)) (fun f l aj=>.inl (by rw[<-iO];exact aj))
   (fun c e f z s q=>by injection q with _ _ q;cases q) (fun q=>by rw[hm] at q;simp[lr] at q) ak
  intro x bM U pT ar;rcases h.sep id x L bM (Ne.symm U) bi pT ar.symm with d|d|⟨ck,l,⟨bb,aF,eH,Pe,q⟩,_⟩
  ·exact absurd d xe
  ·rw[uA,aG U];exact d
  ·rw[hm] at q;injection q with q;injection q with _ _ q;cases q
 |true=>
  simp only[cd] at he;unfold AL at he;cases ay:H1.bF.get bF with
  |none=>rw[ay] at he;cases he
  |some l=>
   rw[ay] at he;simp only at he;cases hk:uc H1 id l with
   |none=>rw[hk] at he;cases he
   |some bT=>
    rw[hk] at he;simp only at he;obtain⟨aX,aT,bd,cm,fz,kh⟩:=N2 hk;obtain⟨ca,b7,cw,f',gJ⟩:=aw.Gj he;have pW:H.bF.get bF=some l:=by rw[<-iO];exact ay
    have xa:H'.mem.get id=some (.row cells' elem true bF R8 sh):=by rw[b7,kh id (.inr I),uA];simp
    have acd:∀x,x≠id->x∉l->H'.mem.get x=H.mem.get x:=fun x U nw=>by rw[b7,kh x (.inl nw),uA,aG U]
    have qL:∀x,x≠id->x∈l->H'.mem.get x=some .dead:=fun x U nw=>by rw[b7];exact fz x nw U
    refine h.write bi qK xe (by omega) (by omega) (by omega) xa ?_ ?_ ?_ ?_ ?_ (fun _=>rfl) ak
    ·intro x U;by_cases nw:x∈l
     ·exact .inr ⟨qL x U nw,(h.mv bF l x pW nw).2⟩
     ·exact .inl (acd x U nw)
    ·intro x bM U pT ar;rcases h.sep id x L bM (Ne.symm U) bi pT ar.symm with d|d|⟨ck,a9,⟨bb,aF,eH,Pe,q⟩,_,dC,_,cX⟩
     ·exact absurd d xe
     ·by_cases nw:x∈l
      ·exact qL x U nw
      ·rw[acd x U nw];exact d
     ·rw[hm] at q;injection q with q;injection q with _ _ _ q;subst q
      rw[pW] at dC;injection dC with dC;subst dC
      exact qL x U cX
    ·intro ck a9 dC;by_cases rG:ck=bF
     ·subst rG;rw[pW] at dC;injection dC with dC;subst dC
      right
      intro x y U an eU;by_cases jV:x=id
      ·right;exact qL y (fun e=>eU (by rw[jV,e])) an
      ·left;exact qL x jV U
     ·left;rw[gJ,aG rG,aT,iO];exact dC
    ·intro ck a9 dC;rw[gJ] at dC;split at dC
     ·injection dC with dC;right;exact⟨dC.symm,I⟩
     ·left;rw[aT,iO] at dC;exact dC
    ·intro bb aF f1 eH Pe q;injection q with k' _ _ q;subst q;subst k'
     exact⟨_,_,_,_,hm,s1.symm⟩
def Mx(h:bZ P B w0 μ H w){id off:Nat}{L:Loc}{vs lV:List Value}(bi:μ id=some L)(az:bW μ vs lV)(he:tC H id off vs=some H'):
 ∃a',(storeCells ⟨L.r,off,none⟩ lV).run P w=.ok () a'/\bZ P B w0 μ H' a'/\Step μ μ H H':=by
 unfold tC at he;cases vs with
 |nil=>
  injection he with he;subst he
  have:=az.mf;subst this;exact⟨w,I,h,Step.refl _ _⟩
 |cons d' ahs=>
  simp only at he;generalize Jw:d'::ahs=vs at*;cases aB:Nat.blt id H.bJ with
  |true=>rw[aB] at he;cases he
  |false=>
   rw[aB,dQ] at he;have qK:H.bJ<=id:=by
    have:¬id<H.bJ:=fun q=>by have:=nc q;unfold Nat.blt at aB;simp_all
    omega
   cases hm:H.mem.get id with
   |none=>rw[hm] at he;cases he
   |some b=>
    rw[hm] at he;cases b with
    |row cells elem opn bF ek sh=>
     simp only at he;cases ax:(Nat.ble ek off&&vs.all fx) with
     |false=>rw[ax] at he;cases he
     |true=>
      rw[ax,cd] at he;simp only[gQ] at ax;have To:=iE ax.1;cases hs:gO off cells vs with
      |none=>rw[hs] at he;cases he
      |some cells'=>
       rw[hs] at he;simp only at he;cases hu:H.upd id (.row cells' elem opn bF ek sh) with
       |none=>rw[hu] at he;cases he
       |some H1=>
        rw[hu] at he;simp only at he;obtain⟨s1,s2,jZ⟩:=Wv hs;obtain⟨b,o,aN,aH,bo⟩:=h.gS id L bi;rw[hm] at aN;injection aN with aN;subst aN
        cases o with
        |cells c e f=>
         obtain⟨dc,c9,fI,iL,q4,A3,uu⟩:=bo;have Cx:=az.1;have hE:=afQ (P:=P) L.r off e f lV 0 c w aH (by omega) (fun j aW=>by
          simp only[pc];exact aas uu (by omega) (by omega)) (fun v vz=>by
          obtain⟨i,hi⟩:=nK.1 vz;have vu:i<vs.length:=by
           have:=(dO.1 hi).1;omega
          have:=az.2 i vs[i] v (cU vu) hi;rw[this.fx];exact sf.1 ax.2 _ (P7 vu))
         simp only[pc] at hE;have ak:kP P μ L (.row cells' elem opn bF ek sh) (.cells (r6 c off lV) e f):=by
          refine⟨dc,by rw[Wu];exact c9,fI,by omega,fun al=>by have:=q4 al;omega,?_,uu⟩;intro i v v' hi kF;rw[Pk _ _ _ _ (by omega)] at kF;rw[jZ] at hi;rw[<-Cx] at kF;split at hi
          ·rename_i vn;rw[aP vn] at kF;exact az.2 _ v v' hi kF
          ·rename_i vn;rw[aG vn] at kF;exact A3 i v v' hi kF
         exact⟨_,hE,h.ahI bi qK hm s1 hu he ak⟩
        |_=>exact bo.elim
    |_=>cases he
end
section
variable {P:Program}{B:Nat->Prop}{w0 w:World}{μ:bU}{H H':aw}
def bk.p'{a:Addr}{v:Value}(h:bk μ (.pointer (some a)) v):∃id off L,a=⟨id,off,none⟩/\μ id=some L/\v=.pointer (some ⟨L.r,off,none⟩):=by
 cases h with
 |atom _ h=>simp[isAtom] at h
 |ptr id off L bi=>exact⟨id,off,L,I,bi,I⟩
def bk.Bb{a:Addr}{len cap:Nat}{v:Value}(h:bk μ (.slice (some a) len cap) v):∃bD ew,v=.slice (some bD) len ew:=by
 cases h with
 |atom _ h=>simp[isAtom] at h
 |o5 id off len cap L bi ax=>exact⟨_,_,I⟩
 |q9 id off len cap L bi ax mU=>exact⟨_,_,I⟩
 |xR id off gM L bi=>exact⟨_,_,I⟩
 |zA a=>exact⟨_,_,I⟩
def bk.ayF{a:Addr}{len cap:Nat}{v:Value}(h:bk μ (.slice (some a) len cap) v)(ax:cap≠cK):∃bD,v=.slice (some bD) len cap:=by
 cases h with
 |atom _ h=>simp[isAtom] at h
 |o5 id off len cap L bi ax=>exact⟨_,I⟩
 |q9 id off len cap L bi ax mU=>exact absurd I ax
 |xR id off gM L bi=>exact absurd I ax
 |zA a=>exact⟨_,I⟩
def bk.xS{a:Addr}{len cap:Nat}{v:Value}(h:bk μ (.slice (some a) len cap) v)(hs:a.spot=none\/0<len\/0<cap):
 ∃id off L gM ew,a=⟨id,off,none⟩/\μ id=some L/\v=.slice (some ⟨L.r,gM,none⟩) len ew/\(0<len->gM=off)/\len<=max len ew/\
  ((cap<cK/\ew=cap/\gM=off)\/(cap=cK/\len<=ew/\gM=off/\off+ew*L.sz<=L.N)\/(cap=cK/\len=0/\ew=0)):=by
 cases h with
 |atom _ h=>simp[isAtom] at h
 |o5 id off len cap L bi ax=>exact⟨id,off,L,off,cap,I,bi,I,fun _=>rfl,by omega,.inl ⟨ax,I,I⟩⟩
 |q9 id off len cap L bi ax mU=>exact⟨id,off,L,off,cap,I,bi,I,fun _=>rfl,by omega,.inr (.inl ⟨I,ax,I,mU⟩)⟩
 |xR id off gM L bi=>exact⟨id,off,L,gM,0,I,bi,I,fun h=>absurd h (by omega),by omega,.inr (.inr ⟨I,I,I⟩)⟩
 |zA a=>rcases hs with q|q|q<;>cases q
def bk.uy{len cap:Nat}{v:Value}(h:bk μ (.slice none len cap) v):v=.slice none len cap:=by cases h;rfl
def bk.Ga{v:Value}(h:bk μ (.pointer none) v):v=.pointer none:=by cases h;rfl
def bk.JV{r:Nat}{v:Value}(h:bk μ (.map (some r)) v):∃L,μ r=some L/\v=.map (some L.r):=by
 cases h with
 |atom _ h=>simp[isAtom] at h
 |map id L bi=>exact⟨L,bi,I⟩
def bk.JW{v:Value}(h:bk μ (.map none) v):v=.map none:=by cases h;rfl
def bk.y9{t:TypeId}{x v:Value}(h:bk μ (.iface t x) v):∃dy,v=.iface t dy/\bk μ x dy:=by
 cases h with
 |atom _ h=>simp[isAtom] at h
 |iface t v v' h=>exact⟨v',I,h⟩
def bk.J9{v:Value}(h:bk μ .nilIface v):v=.nilIface:=by cases h;rfl
def bk.Ou{v:Value}(h:bk μ .nilFunc v):v=.nilFunc:=by cases h;rfl
def lS{t:TypeId}{n:Nat}(h:e6 P t=some n)(w:World):(sizeOf t).run P w=.ok n w:=by
 unfold e6 at h;cases hi:P.info? t with
 |none=>rw[hi] at h;cases h
 |some i=>rw[hi] at h;injection h with h;subst h;simp[sizeOf,typeInfo,hi]
def Wq{t:TypeId}{n:Nat}(h:e6 P t=some n):P.cellsOf t=n:=by
 unfold e6 at h;cases hi:P.info? t with
 |none=>rw[hi] at h;cases h
 |some i=>rw[hi] at h;injection h with h;subst h;simp[Program.cellsOf,hi]
def x0{t:TypeId}{z:Value}(h:h2 P t=some z)(w:World):(zeroValue t).run P w=.ok z w:=by
 unfold h2 at h;cases hi:P.info? t with
 |none=>rw[hi] at h;cases h
 |some i=>rw[hi] at h;simp only at h;simp[zeroValue,typeInfo,hi,h]
def fo{t:TypeId}{d:TypeDesc}(h:P.underlying t=some d)(w:World):(underlying t).run P w=.ok d w:=by
 simp[underlying,h]
def Yw{t:TypeId}{n:Nat}(h:tu P t=some (some n)):(∀w,(isAgg t).run P w=.ok true w)/\e6 P t=some n:=by
 unfold tu at h;cases hi:P.info? t with
 |none=>rw[hi] at h;cases h
 |some i=>
  rw[hi] at h;simp only at h;refine⟨fun w=>?_,?_⟩
  ·cases hu:P.underlying t with
   |none=>rw[hu] at h;cases h
   |some d=>rw[hu] at h;cases d<;>first|(simp[isAgg,underlying,hu];done)|(simp at h)
  ·cases hu:P.underlying t with
   |none=>rw[hu] at h;cases h
   |some d=>rw[hu] at h;cases d<;>first|(simp at h;simp[e6,hi,h];done)|(simp at h)
def Yv{t:TypeId}(h:tu P t=some none):∀w,(isAgg t).run P w=.ok false w:=by
 unfold tu at h;cases hi:P.info? t with
 |none=>rw[hi] at h;cases h
 |some i=>
  rw[hi] at h;simp only at h;intro w;cases hu:P.underlying t with
  |none=>rw[hu] at h;cases h
  |some d=>rw[hu] at h;cases d<;>first|(simp[isAgg,underlying,hu];done)|(simp at h)
def aab{t:TypeId}{cs cT:List Value}{off:Nat}{v:Value}(ar:bW μ cs cT)(he:n8 P t cs off=some v)(w:World):
 ∃v',(part t cT.toArray off).run P w=.ok v' w/\bk μ v v':=by
 unfold n8 at he;cases aI:tu P t with
 |none=>rw[aI] at he;cases he
 |some q=>
  rw[aI] at he;cases q with
  |none=>
   simp only[lQ] at he;obtain⟨v',ae,ag⟩:=ar.get he;refine⟨v',?_,ag⟩;simp[part,Yv aI,ae]
  |some n=>
   simp only[wS] at he;obtain⟨ae,ag⟩:=Yw aI;cases aM:takeN n (cs.drop off) with
   |none=>rw[aM] at he;cases he
   |some l=>
    rw[aM] at he;injection he with he;subst he
    obtain⟨aF,aV,cj⟩:=Gm aM;refine⟨.agg ((cT.drop off).take n).toArray,?_,?_⟩
    ·simp[part,ae,lS ag]
    ·rw[aF];exact bk.LO ((ar.drop off).take n)
def bZ.row(h:bZ P B w0 μ H w){id:Nat}{L:Loc}{cells:List Value}{elem:TypeId}{opn:Bool}{bF ek:Nat}{sh:Bool}(bi:μ id=some L)(hm:H.mem.get id=some (.row cells elem opn bF ek sh)):
 ∃c f,w.heap[L.r]?=some (.cells c elem f)/\c.size=L.N/\P.cellsOf elem=L.sz/\cells.length<=L.N/\(opn=false->cells.length=L.N)/\bW μ cells (c.toList.take cells.length)/\R6 L.N ek sh f:=by
 obtain⟨b,o,aN,aH,bo⟩:=h.gS id L bi;rw[hm] at aN;injection aN with aN;subst aN
 cases o with
 |cells c e f=>
  obtain⟨rfl,c9,fI,iL,q4,A3,uu⟩:=bo;refine⟨c,f,aH,c9,fI,iL,q4,⟨by simp;omega,fun i v v' a b=>?_⟩,uu⟩;rw[iY] at b;split at b
  ·exact A3 i v v' a (by simpa using b)
  ·cases b
 |_=>exact bo.elim
def bZ.map(h:bZ P B w0 μ H w){id:Nat}{L:Loc}{es:List MapEntry}{clock:Nat}(bi:μ id=some L)(hm:H.mem.get id=some (.map es clock)):
 ∃oM Mi,w.heap[L.r]?=some (.map oM Mi)/\Bq μ es oM.toList:=by
 obtain⟨b,o,aN,aH,bo⟩:=h.gS id L bi;rw[hm] at aN;injection aN with aN;subst aN
 cases o with
 |map oM c'=>exact⟨oM,c',aH,bo⟩
 |_=>exact bo.elim
def bZ.cells(h:bZ P B w0 μ H w){id:Nat}{L:Loc}{cells:List Value}{elem:TypeId}{opn:Bool}{bF ek:Nat}{sh:Bool}(bi:μ id=some L)(hm:H.mem.get id=some (.row cells elem opn bF ek sh))
 {off n:Nat}{l:List Value}(aM:takeN n (qH off cells)=some l):∃a9,bW μ l a9/\a9.length=n/\(∀j v,a9[j]?=some v->w.cell? ⟨L.r,off+j,none⟩=some v):=by
 obtain⟨c,f,ae,ag,aE,a6,dK,ga,mx⟩:=h.row bi hm;obtain⟨aF,aV,cj⟩:=Gm aM;rw[wS] at aF cj;refine⟨((c.toList.take cells.length).drop off).take n,?_,?_,?_⟩
 ·rw[aF];exact(ga.drop off).take n
 ·have:=((ga.drop off).take n).1;rw[<-aF,aV] at this;exact this.symm
 ·intro j v aW;rw[iY] at aW;split at aW
  ·rw[n2,iY] at aW;split at aW
   ·rw[cell_of_row ae];simpa using aW
   ·cases aW
  ·cases aW
def Z9(h:bZ P B w0 μ H w){t:TypeId}{id off:Nat}{L:Loc}{v:Value}(bi:μ id=some L)(he:ED P H t ⟨id,off,none⟩=some v):
 ∃v',(loadVar t ⟨L.r,off,none⟩).run P w=.ok v' w/\bk μ v v':=by
 simp only[ED] at he;cases hm:H.mem.get id with
 |none=>rw[hm] at he;cases he
 |some b=>
  rw[hm] at he;cases b with
  |row cells elem opn bF ek sh=>
   simp only at he;unfold n8 at he;cases aI:tu P t with
   |none=>rw[aI] at he;cases he
   |some q=>
    rw[aI] at he;cases q with
    |none=>
     simp only[lQ] at he;obtain⟨c,f,ae,ag,aE,a6,dK,ga,mx⟩:=h.row bi hm;obtain⟨v',ca,b7⟩:=ga.get he;refine⟨v',?_,b7⟩;rw[iY] at ca;split at ca
     ·have:w.cell? ⟨L.r,off,none⟩=some v':=by rw[cell_of_row ae];simpa using ca
      simp[loadVar,Yv aI,load,Sem.run,this]
     ·cases ca
    |some n=>
     obtain⟨ae,ag⟩:=Yw aI;simp only at he;cases aM:takeN n (qH off cells) with
     |none=>rw[aM] at he;cases he
     |some l=>
      rw[aM] at he;injection he with he;subst he
      obtain⟨a9,ca,b7,cw⟩:=h.cells bi hm aM;refine⟨.agg a9.toArray,?_,bk.LO ca⟩;have:=run_loadCells_list (P:=P) w ⟨L.r,off,none⟩ a9 (fun j v aW=>by rw[Addr.so];exact cw j v aW);rw[b7] at this;simp[loadVar,ae,lS ag,this]
  |_=>cases he
def anl(h:bZ P B w0 μ H w){t:TypeId}{p iK v:Value}(ap:bk μ p iK)(he:BU P H t p=some v):
 ∃v',(Instr.loadAt t iK).run P w=.ok v' w/\bk μ v v':=by
 unfold BU at he;cases p with
 |pointer a=>
  cases a with
  |none=>simp at he
  |some a=>
   obtain⟨id,off,L,rfl,bi,rfl⟩:=ap.p';simp only at he;obtain⟨v',ae,ag⟩:=Z9 h bi he;exact⟨v',by simp[Instr.loadAt,Instr.sureAddr,ae],ag⟩
 |_=>simp at he
def ant(h:bZ P B w0 μ H w){t:TypeId}{p iK v v':Value}(ap:bk μ p iK)(az:bk μ v v')(he:BW P H t p v=some H'):
 ∃a',(Instr.storeAt t iK v').run P w=.ok () a'/\bZ P B w0 μ H' a'/\Step μ μ H H':=by
 unfold BW at he;cases p with
 |pointer a=>
  cases a with
  |none=>simp at he
  |some a=>
   obtain⟨id,off,L,rfl,bi,rfl⟩:=ap.p';simp only at he;cases hs:e6 P t with
   |none=>rw[hs] at he;cases he
   |some n=>
    rw[hs] at he;simp only at he;cases ak:Nat.beq v.cells.toList.length n with
    |false=>rw[ak] at he;cases he
    |true=>
     rw[ak,cd] at he;obtain⟨a',ae,ag,aE⟩:=Mx h bi az.cells he;have aA:=eM ak;have aj:=az.cells.1;refine⟨a',?_,ag,aE⟩;have en:v'.cells.size=n:=by simp at aj aA;omega
     simp[Instr.storeAt,Instr.sureAddr,storeVar,lS hs,en,ae]
 |_=>simp at he
def ajo{l a9:List Value}(h:bW μ l a9)(aI:l.all fx=true):∀v∈a9,fx v=true:=fun v az=>by
 obtain⟨i,hi⟩:=nK.1 az;have vu:i<l.length:=by have:=(dO.1 hi).1;have:=h.1;omega
 rw[(h.2 i l[i] v (cU vu) hi).fx];exact sf.1 aI _ (P7 vu)
def Vq(h:bZ P B w0 μ H w){elem:TypeId}{cells cells':List Value}{id:Nat}(ax:bW μ cells cells')(aA:vI H elem cells=some (id,H')):
 ∃bh L,bZ P B w0 bh H' (w.alloc (.cells cells'.toArray elem))/\Step μ bh H H'/\bh id=some L/\L.r=w.heap.size/\L.N=cells.length/\L.sz=P.cellsOf elem:=by
 have ak:kP P (μ.put H.ao ⟨w.heap.size,cells.length,P.cellsOf elem⟩) ⟨w.heap.size,cells.length,P.cellsOf elem⟩ (.row cells elem false 0 0 false) (.cells cells'.toArray elem):=by
  refine⟨I,by simp[ax.1],I,b2 _,fun _=>rfl,fun i v v' a b=>?_,?_⟩
  ·exact(ax.2 i v v' a (by simpa using b)).mono (h.wY _)
  ·exact⟨fun off _ ae ag=>by simp at ag,fun _=>.inl I⟩
 obtain⟨a,b,rfl⟩:=h.made aA I I ak;exact⟨_,_,a,b,bU.k9 _ _ _,I,I,I⟩
def Z6(h:bZ P B w0 μ H w){elem:TypeId}{v v' r:Value}(az:bk μ v v')(he:yx H elem v=some (r,H')):
 ∃cu a' bh,(Instr.box elem v').run P w=.ok cu a'/\bZ P B w0 bh H' a'/\Step μ bh H H'/\bk bh r cu:=by
 unfold yx at he;cases al:v.cells.toList.all fx with
 |false=>rw[al] at he;cases he
 |true=>
  rw[al,cd] at he;cases aA:vI H elem v.cells.toList with
  |none=>rw[aA] at he;cases he
  |some p=>
   obtain⟨id,H1⟩:=p;rw[aA] at he;simp only[cb,c8] at he;obtain⟨rfl,rfl⟩:=he;obtain⟨bh,L,a,b,c,d,_⟩:=Vq h az.cells aA;refine⟨.pointer (some ⟨w.heap.size,0,none⟩),_,bh,?_,a,b,?_⟩
   ·simp[Instr.box,newVar,newRow,newObj,Sem.run]
   ·rw[<-d];exact .ptr id 0 L c
def anh{s:TypeId}{p iK v:Value}{f:Nat}(ap:bk μ p iK)(he:Ib P s p f=some v)(w:World):
 ∃v',(Instr.fieldAt s iK f).run P w=.ok v' w/\bk μ v v':=by
 unfold Ib at he;cases p with
 |pointer a=>
  cases a with
  |none=>simp at he
  |some a=>
   obtain⟨id,off,L,rfl,bi,rfl⟩:=ap.p';simp only at he;cases hu:P.underlying s with
   |none=>rw[hu] at he;cases he
   |some d=>
    rw[hu] at he;cases d with
    |struct fields=>
     simp only at he;cases ay:fields[f]? with
     |none=>rw[ay] at he;cases he
     |some fd=>
      rw[ay] at he;simp only at he;cases hs:e6 P fd.type with
      |none=>rw[hs] at he;cases he
      |some n=>
       rw[hs] at he;cases n with
       |zero=>cases he
       |succ n=>
        simp only[cb] at he;subst he;refine⟨.pointer (some ⟨L.r,off+fd.offset,none⟩),?_,.ptr id _ L bi⟩;simp[Instr.fieldAt,fo hu,ay,Instr.sureAddr,fieldPlace,lS hs,Addr.so]
    |_=>cases he
 |_=>simp at he
def UN{i:Int}{len n:Nat}(h:vB i len=some n):i=(n:Int)/\n<len:=by
 unfold vB at h;cases i with
 |ofNat m=>
  simp only at h;cases ak:Nat.blt m len with
  |false=>rw[ak] at h;cases h
  |true=>
   rw[ak,cd] at h;injection h with h;subst h
   exact⟨I,iE ak⟩
 |negSucc m=>cases h
def FA{i:Int}{len n:Nat}(h:rV i len=some n):i=(n:Int)/\n<=len:=by
 unfold rV at h;cases i with
 |ofNat m=>
  simp only at h;cases ak:Nat.ble m len with
  |false=>rw[ak] at h;cases h
  |true=>
   rw[ak,cd] at h;injection h with h;subst h
   exact⟨I,iE ak⟩
 |negSucc m=>cases h
def bk.rW{k:IntKind}{n:Int}{v:Value}(h:bk μ (.int k n) v):v=.int k n:=by
 cases h;rfl
def bk.Hw{b:Bool}{v:Value}(h:bk μ (.bool b) v):v=.bool b:=by cases h;rfl
def bk.KE{s:ByteArray}{v:Value}(h:bk μ (.string s) v):v=.string s:=by cases h;rfl
def ani{t:TypeId}{x dy dM acZ v:Value}(U:bk μ x dy)(hi:bk μ dM acZ)(he:yA P t x dM=some v)(w:World):
 ∃v',(Instr.indexAt t dy acZ).run P w=.ok v' w/\bk μ v v':=by
 unfold yA at he;cases dM with
 |int k i=>
  obtain rfl:=hi.rW;simp only at he;cases hu:P.underlying t with
  |none=>rw[hu] at he;simp at he
  |some d=>
   rw[hu] at he;cases d with
   |array len elem=>
    cases x with
    |pointer a=>
     cases a with
     |none=>simp at he
     |some a=>
        obtain⟨id,off,L,rfl,bi,rfl⟩:=U.p';simp only at he;cases aA:vB i len with
        |none=>rw[aA] at he;simp at he
        |some n=>
         rw[aA] at he;cases hs:e6 P elem with
         |none=>rw[hs] at he;simp at he
         |some sz=>
          rw[hs] at he;simp only[cb] at he;subst he;obtain⟨rfl,cI⟩:=UN aA;refine⟨.pointer (some ⟨L.r,off+n*sz,none⟩),?_,.ptr id _ L bi⟩;simp[Instr.indexAt,asIntOf,fo hu,Instr.sureAddr,lS hs,cI,Addr.so]
    |_=>simp at he
   |slice elem=>
    cases x with
    |slice a len cap=>
     cases a with
     |none=>simp at he
     |some a=>
        have kI:a.spot=none:=by
         cases q:a.spot with
         |none=>rfl
         |some _=>simp[q] at he
        obtain⟨id,off,L,gM,ew,rfl,bi,rfl,al,_,_⟩:=U.xS (.inl kI);simp only at he;cases aA:vB i len with
        |none=>rw[aA] at he;simp at he
        |some n=>
         rw[aA] at he;cases hs:e6 P elem with
         |none=>rw[hs] at he;simp at he
         |some sz=>
          rw[hs] at he;simp only[cb] at he;subst he;obtain⟨rfl,cI⟩:=UN aA;rw[al (by omega)];refine⟨.pointer (some ⟨L.r,off+n*sz,none⟩),?_,.ptr id _ L bi⟩;simp[Instr.indexAt,asIntOf,fo hu,lS hs,cI,Addr.so]
    |_=>simp at he
   |_=>simp at he
 |_=>simp at he
def He(μ:bU):Option Value->Option Value->Prop
 |none,none=>True
 |some v,some v'=>bk μ v v'
 |_,_=>False
def run_sliceBound{k:IntKind}{n y:Nat}(h:n<=y)(code:BoundsCode)(w:World):(Instr.sliceBound (.int k (n:Int)) y code).run P w=.ok n w:=by
 have:(n:Int)<=(y:Int):=by omega
 simp[Instr.sliceBound,asIntOf,this]
def Hy{lo zg hi kF:Option Value}(ji:He μ lo zg)(lK:He μ hi kF){len top Bh h l:Nat}{FC:Bool}(dB:l2 len top hi=some h)(aj:l2 0 h lo=some l)(aM:top<=Bh)(w:World):
 (Instr.sliceBounds FC len Bh zg kF none).run P w=.ok (l,h,Bh) w/\l<=h/\(len<=Bh->h<=Bh):=by
 have ae:(hi=none/\kF=none/\h=len)\/(∃k,hi=some (.int k h)/\kF=some (.int k h)/\h<=top):=by
  cases hi with
  |none=>cases kF with
   |none=>simp[l2] at dB;exact .inl ⟨I,I,dB.symm⟩
   |some v=>exact lK.elim
  |some v=>cases kF with
   |none=>exact lK.elim
   |some v'=>
    cases v with
    |int k i=>
     obtain⟨rfl,hle⟩:=FA (by simpa[l2] using dB);have:=bk.rW lK;subst this;exact .inr ⟨k,I,I,hle⟩
    |_=>simp[l2] at dB
 have ag:(lo=none/\zg=none/\l=0)\/(∃k,lo=some (.int k l)/\zg=some (.int k l)/\l<=h):=by
  cases lo with
  |none=>cases zg with
   |none=>simp[l2] at aj;exact .inl ⟨I,I,aj.symm⟩
   |some v=>exact ji.elim
  |some v=>cases zg with
   |none=>exact ji.elim
   |some v'=>
    cases v with
    |int k i=>
     obtain⟨rfl,hle⟩:=FA (by simpa[l2] using aj);have:=bk.rW ji;subst this;exact .inr ⟨k,I,I,hle⟩
    |_=>simp[l2] at aj
 rcases ae with⟨_,rfl,rfl⟩|⟨k,_,rfl,aF⟩<;>rcases ag with⟨_,rfl,rfl⟩|⟨fT,_,rfl,aV⟩
 ·exact⟨by simp[Instr.sliceBounds],by omega,by omega⟩
 ·exact⟨by simp[Instr.sliceBounds,run_sliceBound aV],by omega,by omega⟩
 ·exact⟨by simp[Instr.sliceBounds,run_sliceBound (show h<=Bh by omega)],by omega,by omega⟩
 ·exact⟨by simp[Instr.sliceBounds,run_sliceBound (show h<=Bh by omega),run_sliceBound aV],by omega,by omega⟩
def QO{a b:Nat}(h:a≠b):Nat.beq a b=false:=by
 cases q:Nat.beq a b
 ·rfl
 ·exact absurd (eM q) h
def ans(h:bZ P B w0 μ H w){t:TypeId}{x dy v:Value}{lo zg hi kF:Option Value}(U:bk μ x dy)(ji:He μ lo zg)(lK:He μ hi kF)(he:l4 P H t x lo hi=some v):
 ∃v',(Instr.sliceAt t dy zg kF none).run P w=.ok v' w/\bk μ v v':=by
 unfold l4 at he;cases hu:P.underlying t with
 |none=>rw[hu] at he;simp at he
 |some d=>
  rw[hu] at he;cases d with
  |array n elem=>
   cases x with
   |pointer a=>
    cases a with
    |none=>simp at he
    |some a=>
     obtain⟨id,off,L,rfl,bi,rfl⟩:=U.p';simp only at he;cases hs:e6 P elem with
     |none=>rw[hs] at he;simp at he
     |some sz=>
      rw[hs] at he;simp only at he;cases oQ:Nat.blt n cK with
      |false=>rw[oQ] at he;simp at he
      |true=>
      rw[oQ] at he;simp only[ow,dQ] at he;have aDD:n<cK:=iE oQ;cases dB:l2 n n hi with
      |none=>rw[dB] at he;simp at he
      |some E6=>
       rw[dB] at he;simp only at he;cases aj:l2 0 E6 lo with
       |none=>rw[aj] at he;simp at he
       |some l=>
        rw[aj] at he;simp only[cb] at he;subst he;obtain⟨bc,bl,b0⟩:=Hy (P:=P) (FC:=false) ji lK dB aj (b2 _) w;show ∃v',_/\bk μ (.slice (some (bif Nat.beq n l then _ else _)) (E6 -l) (n -l)) v';by_cases cH:n=l
        ·subst cH;refine⟨.slice (some ⟨L.r,off,none⟩) (E6 -n) (n -n),?_,?_⟩
         ·simp[Instr.sliceAt,fo hu,Instr.sureAddr,bc,lS hs]
         ·rw[ix n,cd];exact .o5 id off (E6 -n) (n -n) L bi (by omega)
        ·refine⟨.slice (some ⟨L.r,off+l*sz,none⟩) (E6 -l) (n -l),?_,?_⟩
         ·simp[Instr.sliceAt,fo hu,Instr.sureAddr,bc,lS hs,cH,Addr.so]
         ·rw[QO cH,dQ];exact .o5 id (off+l*sz) (E6 -l) (n -l) L bi (by omega)
   |_=>simp at he
  |slice elem=>
   cases x with
   |slice a len cap=>
    cases a with
    |none=>simp at he
    |some a=>
     have kI:a.spot=none:=by
      cases q:a.spot with
      |none=>rfl
      |some _=>simp[q] at he
     obtain⟨id,off,L,gM,ew,rfl,bi,rfl,al,_,vp⟩:=U.xS (.inl kI);simp only at he;cases hs:e6 P elem with
     |none=>rw[hs] at he;simp at he
     |some sz=>
      rw[hs] at he;simp only at he;by_cases eF:cap=cK
      ·subst eF;rw[ix,cd] at he;cases hm:H.mem.get id with
       |none=>rw[hm] at he;simp at he
       |some b=>
        rw[hm] at he;cases b with
        |row cells el opn bF ek sh=>
         simp only at he;cases np:Nat.beq el elem with
         |false=>rw[np] at he;simp at he
         |true=>
          rw[np] at he;simp only[ow,dQ] at he;have:=eM np;subst this;obtain⟨c,f,dc,c9,fI,iL,q4,A3,uu⟩:=h.row bi hm;have en:L.sz=sz:=by rw[<-fI];exact Wq hs
          cases dB:l2 len len hi with
          |none=>rw[dB] at he;simp at he
          |some g=>
           rw[dB] at he;simp only at he;cases aj:l2 0 g lo with
           |none=>rw[aj] at he;simp at he
           |some l=>
            rw[aj] at he;simp only[cb] at he;subst he;show ∃v',_/\bk μ (.slice _ (g -l) cK) v';rcases vp with⟨bb,_,_⟩|⟨_,bt,rfl,cE⟩|⟨_,rfl,rfl⟩
            ·omega
            ·obtain⟨bc,bl,b0⟩:=Hy (P:=P) (FC:=true) ji lK dB aj bt w;have aB:g<=len:=by
              have:=(Hy (P:=P) (FC:=true) ji lK dB aj (b2 _) w).2.2;exact this (b2 _)
             by_cases E9:ew=l
             ·subst E9;refine⟨.slice (some ⟨L.r,gM,none⟩) (g -ew) (ew -ew),?_,?_⟩
              ·simp[Instr.sliceAt,Instr.slice,fo hu,bc,lS hs]
              ·have aF:g -ew=0:=by omega
               rw[aF,pL];exact .xR id _ gM L bi
             ·refine⟨.slice (some ⟨L.r,gM+l*sz,none⟩) (g -l) (ew -l),?_,?_⟩
              ·simp[Instr.sliceAt,Instr.slice,fo hu,bc,lS hs,E9,Addr.so]
              ·refine .q9 id _ _ _ L bi (by omega) ?_;rw[en] at cE ⊢;have:ew*sz=l*sz+(ew -l)*sz:=by rw[<-g'];congr 1;omega
               omega
            ·obtain⟨bc,bl,b0⟩:=Hy (P:=P) (FC:=true) (Bh:=0) ji lK dB aj (b2 _) w;have:=b0 (b2 _);have aF:g=0:=by omega
             have aV:l=0:=by omega
             subst aF;subst aV;refine⟨.slice (some ⟨L.r,gM,none⟩) 0 0,?_,?_⟩
             ·simp[Instr.sliceAt,Instr.slice,fo hu,bc,lS hs]
             ·exact .xR id _ gM L bi
        |_=>simp at he
      ·rw[QO eF,dQ] at he;rcases vp with⟨bb,rfl,rfl⟩|⟨q,_⟩|⟨q,_⟩
       ·cases dB:l2 len ew hi with
        |none=>rw[dB] at he;simp at he
        |some g=>
         rw[dB] at he;simp only at he;cases aj:l2 0 g lo with
         |none=>rw[aj] at he;simp at he
         |some l=>
          rw[aj] at he;simp only[cb] at he;subst he;show ∃v',_/\bk μ (.slice (some (bif Nat.beq ew l then _ else _)) (g -l) (ew -l)) v';obtain⟨bc,bl,b0⟩:=Hy (P:=P) (FC:=true) ji lK dB aj (b2 _) w;by_cases cH:ew=l
          ·subst cH;refine⟨.slice (some ⟨L.r,gM,none⟩) (g -ew) (ew -ew),?_,?_⟩
           ·simp[Instr.sliceAt,Instr.slice,fo hu,bc,lS hs]
           ·rw[ix,cd];exact .o5 id gM _ _ L bi (by omega)
          ·refine⟨.slice (some ⟨L.r,gM+l*sz,none⟩) (g -l) (ew -l),?_,?_⟩
           ·simp[Instr.sliceAt,Instr.slice,fo hu,bc,lS hs,cH,Addr.so]
           ·rw[QO cH,dQ];exact .o5 id _ _ _ L bi (by omega)
       ·exact absurd q eF
       ·exact absurd q eF
   |_=>simp at he
  |_=>simp at he
def Bo(z:List Value):fp z 0=[]:=by
 rcases z with _|⟨a,_|⟨b,z⟩⟩<;>rfl
def v5(z:List Value)(n:Nat):fp z (n+1)=z++fp z n:=by
 rcases z with _|⟨a,_|⟨b,z⟩⟩<;>rfl
def Xk(z:List Value)(n:Nat):(fp z n).length=n*z.length:=by
 induction n with
 |zero=>simp[Bo]
 |succ n aC=>simp[v5,aC,nf];omega
def aBl(z:List Value)(n i:Nat)(h:i<n*z.length):(fp z n)[i]?=z[i % z.length]?:=by
 induction n generalizing i with
 |zero=>simp at h
 |succ n aC=>
  simp only[v5];rw[XR];split
  ·rename_i hi;rw[wu hi]
  ·rename_i hi;rw[aC (i -z.length) (by rw[nf] at h;omega)];congr 1
   exact(Nat.mod_eq_sub_mod (by omega)).symm
def K4{z:List Value}{n:Nat}{v:Value}{p:Value->Prop}(h:v∈fp z n)(ap:∀u∈z,p u):p v:=by
 induction n with
 |zero=>simp[Bo] at h
 |succ m aC=>
  simp only[v5,mm] at h;rcases h with h|h
  ·exact ap v h
  ·exact aC h
def QW{t:TypeId}{n:Nat}(h:wL P t=some n):∃i,P.info? t=some i/\i.bytes=n:=by
 unfold wL at h;cases hi:P.info? t with
 |none=>rw[hi] at h;cases h
 |some i=>rw[hi] at h;injection h with h;exact⟨i,I,h⟩
def K5(z:List Value)(n:Nat):(Array.range (n*z.length)).map (fun i=>(z.toArray)[i % z.toArray.size]!)=(fp z n).toArray:=by
 apply GH
 intro i;by_cases hi:i<n*z.length
 ·have aR:0<z.length:=by
   rcases oC z.length with q|q
   ·rw[q] at hi;simp at hi
   ·exact q
  have hm:i % z.length<z.length:=lh _ aR;have e:(fp z n).toArray[i]?=z[i % z.length]?:=by rw[<-aBl z n i hi];simp
  rw[e];simp[hi,hm]
 ·rw[uG (by simp;omega),uG (by simp[Xk];omega)]
def q1{v:Value}(h:plain v=true):bk μ v v:=bk.avu h
def OS{v v':Value}(h:plain v=true)(ar:bk μ v v'):v'=v:=bk.OS h ar
def bW.Gi{l:List Value}(h:∀v∈l,bk μ v v):bW μ l l:=⟨I,fun i v v' a b=>by
 rw[a] at b;injection b with b;subst b;exact h v (dq a)⟩
def anm(h:bZ P B w0 μ H w){t:TypeId}{l a9 c c' v:Value}(aj:bk μ l a9)(ax:bk μ c c')(he:Ic P H t l c=some (v,H')):
 ∃v' a' bh,(Instr.makeSlice t a9 c').run P w=.ok v' a'/\bZ P B w0 bh H' a'/\Step μ bh H H'/\bk bh v v':=by
 unfold Ic at he;cases l with
 |int aX l=>
  cases c with
  |int aT c=>
   obtain rfl:=aj.rW;obtain rfl:=ax.rW;cases hu:P.underlying t with
   |none=>rw[hu] at he;simp at he
   |some d=>
    rw[hu] at he;cases d with
    |slice elem=>
     simp only at he;cases aR:h2 P elem with
     |none=>rw[aR] at he;simp at he
     |some z=>
      rw[aR] at he;cases iR:wL P elem with
      |none=>rw[iR] at he;simp at he
      |some jR=>
       rw[iR] at he;cases hs:e6 P elem with
       |none=>rw[hs] at he;simp at he
       |some sz=>
        rw[hs] at he;simp only at he;cases vn:rV c 1000000 with
        |none=>rw[vn] at he;simp at he
        |some bu=>
         rw[vn] at he;cases dC:rV l 1000000 with
         |none=>rw[dC] at he;simp at he
         |some hO=>
          rw[dC] at he;simp only at he;cases yP:(Nat.ble hO bu&&Nat.ble jR 1000000&&Nat.beq z.cells.toList.length sz&&z.cells.toList.all fx&&plain z) with
          |false=>rw[yP] at he;simp at he
          |true=>
           rw[yP,cd] at he;simp only[gQ] at yP;obtain⟨⟨⟨⟨aN,aH⟩,bo⟩,db⟩,fH⟩:=yP;have aN:=iE aN;have aH:=iE aH;have bo:=eM bo;obtain⟨rfl,hM⟩:=FA vn;obtain⟨rfl,pZ⟩:=FA dC;cases aA:vI H elem (fp z.cells.toList bu) with
           |none=>rw[aA] at he;simp at he
           |some p=>
            obtain⟨id,H1⟩:=p;rw[aA] at he;simp only[cb,c8] at he;obtain⟨rfl,rfl⟩:=he;have t':bW μ z.cells.toList z.cells.toList:=(q1 fH).cells;have yN:bW μ (fp z.cells.toList bu) (fp z.cells.toList bu):=bW.Gi fun v az=>by
                exact K4 (p:=fun v=>bk μ v v) az (fun u hu=>by
                 obtain⟨i,hi⟩:=nK.1 hu;exact t'.2 i u u hi hi)
            obtain⟨bh,L,a,b,bb,d1,_⟩:=Vq h yN aA;refine⟨.slice (some ⟨w.heap.size,0,none⟩) hO bu,_,bh,?_,a,b,?_⟩
            ·obtain⟨i,hi,rfl⟩:=QW iR
             have s3:i.zero=some z:=by simpa[h2,hi] using aR
             have tU:i.size=sz:=by simpa[e6,hi] using hs
             have hmul:i.bytes*bu<=1000000*1000000:=zY aH hM;have jj:=K5 z.cells.toList bu;have hE:=run_make (P:=P) w t elem i z hu hi s3 aX aT (hO:Int) (bu:Int) (by omega) (by omega) (by
                 have:(i.bytes:Int)*(bu:Int)=((i.bytes*bu:Nat):Int):=by simp
                 rw[this];omega) (by omega)
             rw[hE];simp only[ff];congr 3
             rw[<-jj];simp[madeCells,tU,<-bo]
            ·rw[<-d1];exact .o5 id 0 hO bu L bb (by have:(1000000:Nat)<cK:=by decide
                                                    omega)
    |_=>simp at he
  |_=>simp at he
 |_=>simp at he
def adh{x dy:Value}{m:Nat}(U:bk μ x dy)(hm:s4 x=some m)(w:World):(Builtin.lenOf dy).run P w=.ok m w:=by
 cases x with
 |slice a len cap=>
  simp[s4] at hm;subst hm;cases a with
  |none=>rw[U.uy];simp[Builtin.lenOf]
  |some a=>obtain⟨bD,ew,rfl⟩:=U.Bb;simp[Builtin.lenOf]
 |string s=>rw[U.KE];simp[s4] at hm;subst hm;rfl
 |_=>simp[s4] at hm
def aj3(s:ByteArray)(n:Nat):((s.extract 0 n).data.map fun b=>Value.int .u8 b.toNat)=((s.data.toList.take n).map fun b=>Value.int .u8 b.toNat).toArray:=by
 apply r9
 simp[ByteArray.data_extract]
def Mv(h:bZ P B w0 μ H w){x dy:Value}{sz n m:Nat}{l:List Value}(U:bk μ x dy)(hm:s4 x=some m)(aA:n<=m)(he:kB H sz n x=some l):
 ∃a9,bW μ l a9/\∀gZ,(Builtin.firstCells sz n dy).run P {w with drawn:=gZ}=.ok a9.toArray {w with drawn:=gZ}:=by
 cases x with
 |slice a len cap=>
  simp[s4] at hm;subst hm;cases a with
  |none=>
   rw[U.uy];cases n with
   |zero=>simp[kB] at he;subst he;exact⟨[],bW.nil _,fun gZ=>by simp[Builtin.firstCells]⟩
   |succ n=>simp[kB] at he
  |some a=>
   cases n with
   |zero=>
    obtain⟨bD,ew,rfl⟩:=U.Bb;simp[kB] at he;subst he;exact⟨[],bW.nil _,fun gZ=>by simp[Builtin.firstCells,loadCells,loadCellsFrom]⟩
   |succ n=>
    obtain⟨id,off,L,gM,ew,rfl,bi,rfl,al,_⟩:=U.xS (.inr (.inl (by omega)));simp only[kB] at he;rw[al (by omega)];cases rL:H.mem.get id with
    |none=>rw[rL] at he;simp at he
    |some b=>
     rw[rL] at he;cases b with
     |row cells elem opn bF ek sh=>
      simp only at he;obtain⟨a9,ca,b7,cw⟩:=h.cells bi rL he;refine⟨a9,ca,fun gZ=>?_⟩;exact run_firstCells_some (P:=P) {w with drawn:=gZ} sz (n+1) ⟨L.r,off,none⟩ len ew a9 (by rw[b7]) (fun j v aW=>by rw[Addr.so];exact cw j v aW)
     |_=>simp at he
 |string s=>
  rw[U.KE];simp only[kB] at he;cases aM:takeN n s.data.toList with
  |none=>rw[aM] at he;simp at he
  |some bs=>
   rw[aM] at he;simp only[cb] at he;subst he;obtain⟨aF,aV,cj⟩:=Gm aM;refine⟨bs.map fun b=>.int .u8 b.toNat,bW.Gi fun v az=>?_,fun gZ=>?_⟩
   ·obtain⟨b,_,rfl⟩:=lf.1 az;exact .atom _ I
   ·simp only[Builtin.firstCells,aj3,aF];rfl
 |_=>simp[s4] at hm
def Wi(t iA eE e:TypeId)(e0:TypeDesc)(i:TypeInfo)(z:Value)(aM:P.underlying t=some (.slice e))(lN:P.underlying iA=some e0)(yQ:∀k,e0≠.int k)(hi:P.info? e=some i)(aR:i.zero=some z)
 (base:Option Addr)(dm jn n:Nat)(x:Value)(aeC news:List Value)(hlen:∀w,(Builtin.lenOf x).run P w=.ok n w)
 (hold:∀gZ,(Builtin.firstCells i.size dm (.slice base dm jn)).run P {w with drawn:=gZ}=.ok aeC.toArray {w with drawn:=gZ})
 (nU:∀gZ,(Builtin.firstCells i.size n x).run P {w with drawn:=gZ}=.ok news.toArray {w with drawn:=gZ})
 (aB:jn<dm+n) (aoU:dm+n<=1000000) (iR:i.bytes<=1000000):
 (Builtin.append_ #[t,iA] eE #[.slice base dm jn,x]).run P w=
  .ok (.slice (some ⟨w.heap.size,0,none⟩) (dm+n) (grownCap w (dm+n) jn e))
   (w.drew.alloc (.cells (aeC.toArray++(news.toArray++Builtin.zeroCells z.cells (grownCap w (dm+n) jn e -(dm+n)))) e)):=by
 have aA:¬(dm+n<=jn):=by omega
 have aoV:¬(9223372036854775807<((dm:Int)+(n:Int))):=by omega
 have hmul:(dm+n)*i.bytes<=1000000*1000000:=zY aoU iR
 have aoT:¬(281474976710656<Builtin.nextslicecap (dm+n) jn*i.bytes):=by
  have:=growslice_fits (bytes:=i.bytes) aB (by omega);omega
 have al:=hold (w.drawn+1);have hw:=nU (w.drawn+1);have My:({w with drawn:=w.drawn+1}:World)=w.drew:=rfl;rw[My] at al hw;simp[Builtin.append_,run_underlying aM,run_underlying lN,sizeOf,typeInfo,zeroValue,hi,aR,hlen,aA,aoV,aoT,Question.forced,hw,al,newRow,grownCap]
def Pb(t iA eE e:TypeId)(e0:TypeDesc)(i:TypeInfo)(aM:P.underlying t=some (.slice e))(lN:P.underlying iA=some e0)(yQ:∀k,e0≠.int k)(hi:P.info? e=some i)
 (base:Option Addr)(dm jn n:Nat)(x:Value)(news:List Value)(a':World)(hlen:∀w,(Builtin.lenOf x).run P w=.ok n w)
 (nU:(Builtin.firstCells i.size n x).run P w=.ok news.toArray w)(aB:dm+n<=jn)
 (c4:∀a,base=some a->(storeCells (a.add (dm*i.size)) news).run P w=.ok () a')(fB:base=none->a'=w):
 (Builtin.append_ #[t,iA] eE #[.slice base dm jn,x]).run P w=.ok (.slice base (dm+n) jn) a':=by
 cases base with
 |none=>
  rw[fB I];simp[Builtin.append_,run_underlying aM,run_underlying lN,sizeOf,typeInfo,hi,hlen,aB,nU]
 |some a=>
  have:=c4 a I;simp[Builtin.append_,run_underlying aM,run_underlying lN,sizeOf,typeInfo,hi,hlen,aB,nU,this]
end
end
end Go.Cre

/- A part of the proof of SampleParts. -/
import Derived.Test.YtdbhjgpppmkagaaGreatCad
import Derived.Laws.Append
import Derived.Laws.AppendOwn
set_option linter.unusedVariables false
set_option linter.unusedSimpArgs false
namespace Go.Cre
noncomputable section
open Go.RowKit
def Lk(N eD:Nat)(sh:Bool)(f:Nat×Nat):Prop:=(∀off,off<N->f.1<=off->off<f.2->off<eD)/\(sh=false->f.1=f.2\/f.2<=eD)
inductive uI (μ:bH):List MapEntry->List MapEntry->Prop
 |nil:uI μ [] []
 |cons (e bn:MapEntry) (es hG:List MapEntry):bn.key=e.key->plain e.key=true->bj μ e.val bn.val->uI μ es hG->uI μ (e::es) (bn::hG)
def ym(μ:bH)(es hG:List MapEntry):Prop:=∃l,l.Perm hG/\uI μ es l
theorem uI.mono{μ bk:bH}{l m:List MapEntry}(h:uI μ l m)(e:Ext μ bk):uI bk l m:=by
 induction h with
 |nil=>exact .nil
 |cons a b es hG aa ab aK _ aG=>exact .cons a b es hG aa ab (aK.mono e) aG
theorem uI.length{μ:bH}{l m:List MapEntry}(h:uI μ l m):l.length=m.length:=by
 induction h with
 |nil=>rfl
 |cons a b es hG aa ab aK _ aG=>simp[aG]
theorem ym.length{μ:bH}{l m:List MapEntry}(h:ym μ l m):l.length=m.length:=by
 obtain⟨k,aa,ab⟩:=h;rw[ab.length,aa.length_eq]
theorem ym.nil(μ:bH):ym μ [] []:=⟨[],.refl _,.nil⟩
def jK(μ:bH)(T:aX Value)(n:Nat)(tmps:Array Value):Prop:=n<=tmps.size/\∀t v,T.get t=some v->bj μ v (tmps.getD t undef)
def jm(P:Program)(μ:bH)(L:Loc):fa->Obj->Prop
 |.row cells elem opn _ eD sh,.cells c e f=>e=elem/\c.size=L.N/\P.cellsOf elem=L.aj/\cells.length<=L.N/\(opn=false->cells.length=L.N)/\
  (∀(i:Nat) v v',cells[i]?=some v->c[i]?=some v'->bj μ v v')/\Lk L.N eD sh f
 |.map es _,.map hG _=>ym μ es hG.toList
 |.loop l,.loop l'=>l'.state=l.state/\l'.pending=l.pending/\l'.params.toList=l.params/\l'.assign=l.assign/\l'.body=l.body/\jK μ l.T l.n l'.tmps/\∃bw,μ l.gh=some bw/\l'.defers=bw.r
 |.gh ds,.deferred fm=>fm=ds/\(ds=some []\/ds=none)
 |.dead,_=>True
 |_,_=>False
theorem jK.mono{μ bk:bH}{T:aX Value}{n:Nat}{tmps:Array Value}(h:jK μ T n tmps)(e:Ext μ bk):jK bk T n tmps:=⟨h.1,fun t v x=>(h.2 t v x).mono e⟩
theorem jm.mono{P:Program}{μ bk:bH}{L:Loc}{b:fa}{o:Obj}(h:jm P μ L b o)(e:Ext μ bk):jm P bk L b o:=by
 cases b with
 |row cells elem opn br eD sh=>
  cases o with
  |cells c bn f=>obtain⟨aa,ab,aK,bh,ff,gz,ml⟩:=h;exact⟨aa,ab,aK,bh,ff,fun i v v' a b=>(gz i v v' a b).mono e,ml⟩
  |_=>exact h
 |map es clock=>
  cases o with
  |map hG G8=>obtain⟨l,aa,ab⟩:=h;exact⟨l,aa,ab.mono e⟩
  |_=>exact h
 |loop l=>
  cases o with
  |loop l'=>obtain⟨aa,ab,aK,bh,ff,gz,bw,ml,y5⟩:=h;exact⟨aa,ab,aK,bh,ff,gz.mono e,bw,e _ _ ml,y5⟩
  |_=>exact h
 |gh ds=>
  cases o with
  |deferred fm=>exact h
  |_=>exact h
 |dead=>cases o<;>trivial
def jU:Option fa->Bool
 |some (.row _ _ opn _ _ _)=>opn
 |_=>false
def vM(H:ao)(id f:Nat):Prop:=∃c e z s,H.mem.get id=some (.row c e true f z s)
def Pn(H:ao)(id lF:Nat):Prop:=
 H.mem.get id=some .dead\/H.mem.get lF=some .dead\/∃f l,vM H id f/\vM H lF f/\H.br.get f=some l/\id∈l/\lF∈l
def Kh(H:ao)(l:List Nat):Prop:=
 l.Pairwise fun x y=>∀c e f z s b1 bn dj hT cZ,H.mem.get x=some (.row c e true f z s)->H.mem.get y=some (.row b1 bn true dj hT cZ)->b1.length<=c.length
structure Kept (B:Nat->Prop) (w bb:World):Prop where
 os:bb.os=w.os
 tape:bb.tape=w.tape
 output:bb.output=w.output
 size:w.heap.size<=bb.heap.size
 block:∀k,B k->bb.heap[k]?=w.heap[k]?
theorem Kept.refl(B:Nat->Prop)(w:World):Kept B w w:=⟨rfl,rfl,rfl,dH _,fun _ _=>rfl⟩
theorem Kept.trans{B:Nat->Prop}{a b c:World}(h:Kept B a b)(k:Kept B b c):Kept B a c:=
 ⟨k.os.trans h.os,k.tape.trans h.tape,k.output.trans h.output,m9 h.size k.size,fun i ak=>(k.block i ak).trans (h.block i ak)⟩
theorem Kept.drew{B:Nat->Prop}{a w:World}(h:Kept B a w):Kept B a w.drew:=⟨h.os,h.tape,h.output,h.size,h.block⟩
theorem Kept.alloc{B:Nat->Prop}{a w:World}(h:Kept B a w)(dF:∀k,B k->k<w.heap.size)(o:Obj):Kept B a (w.alloc o):=
 h.trans ⟨rfl,rfl,rfl,by simp,fun k aH=>Below.heap_alloc _ _ _ (dF k aH)⟩
theorem Kept.below{n:Nat}{w bb:World}(h:Kept (fun k=>k<n) w bb):Below n w bb:=⟨h.os,h.tape,h.output,h.size,h.block⟩
theorem Kept.ago{n:Nat}{B:Nat->Prop}{w bb:World}(h:Below n w bb)(dF:∀k,B k->k<n):Kept B w bb:=⟨h.os,h.tape,h.output,h.size,fun k aH=>h.block k (dF k aH)⟩
structure bR (P:Program) (B:Nat->Prop) (w0:World) (μ:bH) (H:ao) (w:World):Prop where
 below:Kept B w0 w
 nf:∀k,B k->k<w.heap.size
 fS:∀id L,μ id=some L->∃b o,H.mem.get id=some b/\w.heap[L.r]?=some o/\jm P μ L b o
 sep:∀id lF L bw,id≠lF->μ id=some L->μ lF=some bw->L.r=bw.r->Pn H id lF
 lt:∀id L,μ id=some L->id<H.af
 own:∀id L,μ id=some L->id<H.bq->L.r=id
 new:∀id L,μ id=some L->H.bq<=id->H.mem.get id≠some .dead->¬B L.r
 si:∀g c e o f z s,g<H.bq->H.mem.get g=some (.row c e o f z s)->∃L,μ g=some L
 kc:H.bq<=H.af
 pX:∀id c e f z s,H.mem.get id=some (.row c e true f z s)->f<H.cd
 kQ:∀f l x,H.br.get f=some l->x∈l->x<H.af/\(jU (H.mem.get x)=true\/H.mem.get x=some .dead)
 tF:∀f l,H.br.get f=some l->Kh H l
structure Step (μ bk:bH) (H H':ao):Prop where
 ext:Ext μ bk
 af:H.af<=H'.af
 bq:H'.bq=H.bq
 e7:∀id,id<H.af->μ id=none->bk id=none/\(jU (H.mem.get id)=false->H'.mem.get id=H.mem.get id)
theorem Step.refl(μ:bH)(H:ao):Step μ μ H H:=⟨Ext.refl μ,dH _,rfl,fun _ _ h=>⟨h,fun _=>rfl⟩⟩
theorem Step.trans{μ e' iV:bH}{H H1 bZ:ao}(h:Step μ e' H H1)(k:Step e' iV H1 bZ):Step μ iV H bZ:=
 ⟨h.ext.trans k.ext,m9 h.af k.af,k.bq.trans h.bq,fun id ak aM=>by
  obtain⟨a,b⟩:=h.e7 id ak aM;obtain⟨c,d⟩:=k.e7 id (uO ak h.af) a;exact⟨c,fun an=>by rw[d (by rw[b an];exact an),b an]⟩⟩
theorem ao.pF{H H':ao}{id:Nat}{b:fa}(h:H.upd id b=some H'):H'.af=H.af/\H'.br=H.br/\H'.cd=H.cd/\H'.bq=H.bq/\∀m,H'.mem.get m=if m=id then some b else H.mem.get m:=by
 obtain⟨mem,af,br,cd,bq⟩:=H;simp only[ao.upd] at h;cases au:aX.put b mem id with
 |none=>rw[au] at h;cases h
 |some m=>rw[au] at h;injection h with h;subst h;exact⟨rfl,rfl,rfl,rfl,aX.get_put au⟩
theorem ao.n1{H H':ao}{id:Nat}{b:fa}(h:H.new b=some (id,H')):id=H.af/\H'.af=H.af+1/\H'.br=H.br/\H'.cd=H.cd/\H'.bq=H.bq/\∀m,H'.mem.get m=if m=H.af then some b else H.mem.get m:=by
 obtain⟨mem,af,br,cd,bq⟩:=H;simp only[ao.new] at h;cases au:aX.put b mem af with
 |none=>rw[au] at h;cases h
 |some m=>
  rw[au] at h;simp only[ao.NE,ao.UC,b6,da] at h;obtain⟨rfl,rfl⟩:=h;exact⟨rfl,rfl,rfl,rfl,rfl,aX.get_put au⟩
theorem ao.Cn{H H':ao}{f:Nat}{l:List Nat}(h:H.qx f l=some H'):H'.af=H.af/\H'.mem=H.mem/\H'.cd=H.cd/\H'.bq=H.bq/\∀m,H'.br.get m=if m=f then some l else H.br.get m:=by
 obtain⟨mem,af,br,cd,bq⟩:=H;simp only[ao.qx] at h;cases au:aX.put l br f with
 |none=>rw[au] at h;cases h
 |some m=>rw[au] at h;injection h with h;subst h;exact⟨rfl,rfl,rfl,rfl,aX.get_put au⟩
theorem ao.IR{H H':ao}{f:Nat}(h:H.uk=some (f,H')):f=H.cd/\H'.af=H.af/\H'.mem=H.mem/\H'.cd=H.cd+1/\H'.bq=H.bq/\∀m,H'.br.get m=if m=H.cd then some [H.af] else H.br.get m:=by
 obtain⟨mem,af,br,cd,bq⟩:=H;simp only[ao.uk] at h;cases au:aX.put [af] br cd with
 |none=>rw[au] at h;cases h
 |some m=>
  rw[au] at h;simp only[ao.NF,ao.UD,b6,da] at h;obtain⟨rfl,rfl⟩:=h;exact⟨rfl,rfl,rfl,rfl,rfl,aX.get_put au⟩
def bH.put(μ:bH)(id:Nat)(L:Loc):bH:=fun x=>if x=id then some L else μ x
theorem bH.jB(μ:bH)(id:Nat)(L:Loc):μ.put id L id=some L:=by simp[bH.put]
theorem bH.sU(μ:bH){id x:Nat}(L:Loc)(h:x≠id):μ.put id L x=μ x:=by simp[bH.put,h]
section
variable {P:Program}{B:Nat->Prop}{w0 w:World}{μ:bH}{H H':ao}
theorem bR.UL(h:bR P B w0 μ H w):μ H.af=none:=by
 cases I:μ H.af with
 |none=>rfl
 |some L=>have:=h.lt _ _ I;omega
theorem bR.tE(h:bR P B w0 μ H w)(L:Loc):Ext μ (μ.put H.af L):=fun id bw I=>by
 by_cases e:id=H.af
 ·subst e;rw[h.UL] at I;cases I
 ·rw[bH.sU _ _ e];exact I
theorem bR.drew(h:bR P B w0 μ H w):bR P B w0 μ H w.drew:=
 ⟨h.below.drew,h.nf,h.fS,h.sep,h.lt,h.own,h.new,h.si,h.kc,h.pX,h.kQ,h.tF⟩
theorem bR.drawn(h:bR P B w0 μ H w)(n:Nat):bR P B w0 μ H {w with drawn:=n}:=
 ⟨⟨h.below.os,h.below.tape,h.below.output,h.below.size,h.below.block⟩,h.nf,h.fS,h.sep,h.lt,h.own,h.new,h.si,h.kc,h.pX,h.kQ,h.tF⟩
theorem Be(w:World)(o:Obj)(r:Nat):(w.alloc o).heap[r]?=if r=w.heap.size then some o else w.heap[r]?:=by
 show(w.heap.push o)[r]?=_;rw[Array.getElem?_push]
theorem bR.Up(h:bR P B w0 μ H w){b:fa}{o:Obj}{L:Loc}(aD:H'.af=H.af+1)(e0:H'.bq=H.bq)(ch:∀m,H'.mem.get m=if m=H.af then some b else H.mem.get m)
 (MN:H.cd<=H'.cd)(nR:∀f l,H'.br.get f=some l->H.br.get f=some l\/(l=[H.af]/\jU (some b)=true))(ade:∀f l,f<H.cd->H.br.get f=some l->H'.br.get f=some l)
 (adS:∀c e f z s,b=.row c e true f z s->f<H'.cd)(ax:L.r=w.heap.size)(ai:jm P (μ.put H.af L) L b o):
 bR P B w0 (μ.put H.af L) H' (w.alloc o)/\Step μ (μ.put H.af L) H H':=by
 have g9:=h.tE L;have eO:∀x bw,(μ.put H.af L) x=some bw->x≠H.af->μ x=some bw:=fun x bw a b=>by rwa [bH.sU _ _ b] at a
 have cP:∀x bw,μ x=some bw->bw.r<w.heap.size:=fun x bw I=>by
  obtain⟨b',o',_,an,_⟩:=h.fS x bw I;rcases jo bw.r w.heap.size with ez|ez
  ·exact ez
  ·rw[rT ez] at an;cases an
 refine⟨⟨h.below.alloc h.nf o,?_,?_,?_,?_,?_,?_,?_,?_,?_,?_,?_⟩,⟨g9,by omega,e0,?_⟩⟩
 ·intro k aH;have:=h.nf k aH;show k<(w.heap.push o).size;rw[Pr];omega
 ·intro x bw I;by_cases dg:x=H.af
  ·subst dg;rw[bH.jB] at I;injection I with I;subst I
   exact⟨b,o,by rw[ch];simp,by rw[Be,ax];simp,ai⟩
  ·have fe:=eO x bw I dg;obtain⟨b',o',aa,ab,aK⟩:=h.fS x bw fe;exact⟨b',o',by rw[ch,aq dg];exact aa,by rw[Be,aq (by have:=cP x bw fe;omega)];exact ab,aK.mono g9⟩
 ·intro x y fE gF fp I ah nm;by_cases dg:x=H.af
  ·subst dg;rw[bH.jB] at I;injection I with I;subst I
   have:=cP y gF (eO y gF ah (Ne.symm fp));omega
  ·by_cases kz:y=H.af
   ·subst kz;rw[bH.jB] at ah;injection ah with ah;subst ah
    have:=cP x fE (eO x fE I dg);omega
   ·rcases h.sep x y fE gF fp (eO x fE I dg) (eO y gF ah kz) nm with d|d|⟨f,l,⟨c,e,z,s,q⟩,⟨b1,bn,hT,cZ,dt⟩,ay,ct,eM⟩
    ·exact .inl (by rw[ch,aq dg];exact d)
    ·exact .inr (.inl (by rw[ch,aq kz];exact d))
    ·exact .inr (.inr ⟨f,l,⟨c,e,z,s,by rw[ch,aq dg];exact q⟩,⟨b1,bn,hT,cZ,by rw[ch,aq kz];exact dt⟩,ade f l (h.pX _ _ _ _ _ _ q) ay,ct,eM⟩)
 ·intro x bw I;by_cases dg:x=H.af
  ·omega
  ·have:=h.lt x bw (eO x bw I dg);omega
 ·intro x bw I ar;rw[e0] at ar;have dg:x≠H.af:=by have:=h.kc;omega
  exact h.own x bw (eO x bw I dg) ar
 ·intro x bw I ar dL;rw[e0] at ar;by_cases dg:x=H.af
  ·subst dg;rw[bH.jB] at I;injection I with I;subst I
   rw[ax];exact fun q=>C1 _ (h.nf _ q)
  ·exact h.new x bw (eO x bw I dg) ar (by rw[ch,aq dg] at dL;exact dL)
 ·intro g c e o f z s ar hm;rw[e0] at ar;have ky:g≠H.af:=by have:=h.kc;omega
  rw[ch,aq ky] at hm;obtain⟨bw,bB⟩:=h.si g c e o f z s ar hm;exact⟨bw,g9 _ _ bB⟩
 ·rw[e0,aD];have:=h.kc;omega
 ·intro x c e f z s hm;rw[ch] at hm;split at hm
  ·injection hm with hm;exact adS c e f z s hm
  ·exact uO (h.pX x c e f z s hm) MN
 ·intro f l x ay I;rcases nR f l ay with ay|⟨rfl,an⟩
  ·obtain⟨a,d⟩:=h.kQ f l x ay I;have dg:x≠H.af:=by omega
   refine⟨by omega,?_⟩;rw[ch,aq dg];exact d
  ·simp at I;subst I;exact⟨by omega,.inl (by rw[ch];simpa using an)⟩
 ·intro f l ay;rcases nR f l ay with ay|⟨rfl,_⟩
  ·refine(h.tF f l ay).imp_of_mem ?_;intro x y I ah fp c e f1 z s b1 bn dj hT cZ q dt;have fe:=(h.kQ f l x ay I).1;have ld:=(h.kQ f l y ay ah).1;rw[ch,aq (by omega)] at q dt;exact fp c e _ z s b1 bn dj hT cZ q dt
  ·exact PS _ _
 ·intro x I jy;have dg:x≠H.af:=by omega
  exact⟨by rw[bH.sU _ _ dg];exact jy,fun _=>by rw[ch,aq dg]⟩
theorem bR.made(h:bR P B w0 μ H w){id:Nat}{b:fa}{o:Obj}{L:Loc}(aM:H.new b=some (id,H'))(an:jU (some b)=false)(ax:L.r=w.heap.size)(ai:jm P (μ.put H.af L) L b o):
 bR P B w0 (μ.put H.af L) H' (w.alloc o)/\Step μ (μ.put H.af L) H H'/\id=H.af:=by
 obtain⟨rfl,aD,a5,cC,e0,ch⟩:=ao.n1 aM;obtain⟨a,b⟩:=h.Up (H':=H') aD e0 ch (by omega) (fun f l x=>.inl (by rw[<-a5];exact x)) (fun f l _ x=>by rw[a5];exact x) (fun c e f z s q=>by rw[q] at an;simp[jU] at an) ax ai;exact⟨a,b,rfl⟩
theorem bR.Ny(h:bR P B w0 μ H w){id:Nat}{cells:List Value}{elem:TypeId}{sh:Bool}{o:Obj}{L:Loc}(aM:H.nq cells elem sh=some (id,H'))(ax:L.r=w.heap.size)
 (ai:∀f,jm P (μ.put H.af L) L (.row cells elem true f 0 sh) o):
 bR P B w0 (μ.put H.af L) H' (w.alloc o)/\Step μ (μ.put H.af L) H H'/\id=H.af:=by
 unfold ao.nq at aM;cases aw:H.uk with
 |none=>rw[aw] at aM;cases aM
 |some p=>
  obtain⟨f,H1⟩:=p;rw[aw] at aM;obtain⟨rfl,bl,bF,bO,b3,c2⟩:=ao.IR aw;obtain⟨rfl,aD,a5,cC,e0,ch⟩:=ao.n1 aM
  obtain⟨x,y⟩:=h.Up (H':=H') (b:=.row cells elem true H.cd 0 sh) (o:=o) (L:=L) (by omega) (by rw[e0,b3]) (fun m=>by rw[ch,bl,bF]) (by omega)
   (fun f l ay=>by
    rw[a5,c2] at ay;split at ay
    ·injection ay with ay;exact .inr ⟨ay.symm,rfl⟩
    ·exact .inl ay)
   (fun f l aw ay=>by rw[a5,c2,aq (by omega)];exact ay)
   (fun c e f z s q=>by injection q with _ _ _ q;omega) ax (ai _)
  exact⟨x,y,bl⟩
theorem bR.write(h:bR P B w0 μ H w){id:Nat}{L:Loc}{b':fa}{o':Obj}(bB:μ id=some L)(ar:H.bq<=id)(tY:H.mem.get id≠some .dead)
 (aD:H'.af=H.af)(a5:H'.cd=H.cd)(cC:H'.bq=H.bq)(AT:H'.mem.get id=some b')
 (bW:∀x,x≠id->H'.mem.get x=H.mem.get x\/(H'.mem.get x=some .dead/\(jU (H.mem.get x)=true\/H.mem.get x=some .dead)))
 (aay:∀x bw,x≠id->μ x=some bw->bw.r=L.r->H'.mem.get x=some .dead)
 (K6:∀f l,H.br.get f=some l->H'.br.get f=some l\/∀x y,x∈l->y∈l->x≠y->H'.mem.get x=some .dead\/H'.mem.get y=some .dead)
 (DJ:∀f l,H'.br.get f=some l->H.br.get f=some l\/(l=[id]/\jU (some b')=true))
 (dU:∀c e f z s,b'=.row c e true f z s->∃b1 bn hT cZ,H.mem.get id=some (.row b1 bn true f hT cZ)/\b1.length=c.length)
 (Tb:jU (H.mem.get id)=true->jU (some b')=true)(ai:jm P μ L b' o'):
 bR P B w0 μ H' {w with heap:=w.heap.setIfInBounds L.r o'}/\Step μ μ H H':=by
 have p7:∀x,H.mem.get x=some .dead->H'.mem.get x=some .dead:=fun x I=>by
  have dR:x≠id:=fun e=>tY (e▸I);rcases bW x dR with q|q
  ·rw[q,I]
  ·exact q.1
 have nR:∀x f,vM H x f->H'.mem.get x=some .dead\/vM H' x f:=fun x f I=>by
  obtain⟨c,e,z,s,q⟩:=I;by_cases hn:x=id
  ·subst hn;right
   have an:=Tb (by rw[q];rfl);cases b' with
   |row bx ve vU f1 kG s1=>
    simp only[jU] at an;subst an;obtain⟨b1,bn,hT,cZ,dt,_⟩:=dU bx ve f1 kG s1 rfl;rw[q] at dt;injection dt with dt;injection dt with _ _ _ aie;subst aie
    exact⟨bx,ve,kG,s1,AT⟩
   |_=>simp[jU] at an
  ·rcases bW x hn with p|p
   ·right;exact⟨c,e,z,s,by rw[p];exact q⟩
   ·left;exact p.1
 have LQ:L.r<w.heap.size:=by
  obtain⟨b,o,_,an,_⟩:=h.fS id L bB;rcases jo L.r w.heap.size with ez|ez
  ·exact ez
  ·rw[rT ez] at an;cases an
 have Hw:=h.new id L bB ar tY;have fg:∀r,({w with heap:=w.heap.setIfInBounds L.r o'}:World).heap[r]?=if r=L.r then some o' else w.heap[r]?:=fun r=>by
  show(w.heap.setIfInBounds L.r o')[r]?=_;rw[yk];by_cases ax:L.r=r
  ·subst ax;simp[LQ]
  ·rw[aq ax,aq (Ne.symm ax)]
 have hJ:∀x c e f z s,H'.mem.get x=some (.row c e true f z s)->∃b1 bn hT cZ,H.mem.get x=some (.row b1 bn true f hT cZ)/\b1.length=c.length:=fun x c e f z s hm=>by
  by_cases hn:x=id
  ·subst hn;rw[AT] at hm;injection hm with hm
   exact dU c e f z s hm
  ·rcases bW x hn with q|q
   ·rw[q] at hm;exact⟨c,e,z,s,hm,rfl⟩
   ·rw[q.1] at hm;cases hm
 refine⟨⟨⟨h.below.os,h.below.tape,h.below.output,?_,?_⟩,?_,?_,?_,?_,?_,?_,?_,?_,?_,?_,?_⟩,⟨Ext.refl _,by omega,cC,?_⟩⟩
 ·show w0.heap.size<=(w.heap.setIfInBounds L.r o').size;rw[Gj];exact h.below.size
 ·intro k aH;rw[fg,aq (fun e=>by subst e;exact Hw aH)];exact h.below.block k aH
 ·intro k aH;show k<(w.heap.setIfInBounds L.r o').size;rw[Gj];exact h.nf k aH
 ·intro x bw I;by_cases hn:x=id
  ·subst hn;rw[bB] at I;injection I with I;subst I
   exact⟨b',o',AT,by rw[fg];simp,ai⟩
  ·by_cases ax:bw.r=L.r
   ·exact⟨.dead,o',aay x bw hn I ax,by rw[fg,aF ax],by simp[jm]⟩
   ·obtain⟨b,o,dS,ho,hp⟩:=h.fS x bw I;rcases bW x hn with q|q
    ·exact⟨b,o,by rw[q];exact dS,by rw[fg,aq ax];exact ho,hp⟩
    ·exact⟨.dead,o,q.1,by rw[fg,aq ax];exact ho,by cases o<;>simp[jm]⟩
 ·intro x y fE gF fp I ah nm;rcases h.sep x y fE gF fp I ah nm with d|d|⟨f,l,q,dt,ay,ct,eM⟩
  ·exact .inl (p7 x d)
  ·exact .inr (.inl (p7 y d))
  ·rcases nR x f q with d|q
   ·exact .inl d
   ·rcases nR y f dt with d|dt
    ·exact .inr (.inl d)
    ·rcases K6 f l ay with de|cA
     ·exact .inr (.inr ⟨f,l,q,dt,de,ct,eM⟩)
     ·rcases cA x y ct eM fp with d|d
      ·exact .inl d
      ·exact .inr (.inl d)
 ·intro x bw I;rw[aD];exact h.lt x bw I
 ·intro x bw I fe;rw[cC] at fe;exact h.own x bw I fe
 ·intro x bw I fe dL;rw[cC] at fe;exact h.new x bw I fe fun q=>dL (p7 x q)
 ·intro g c e o f z s zl hm;rw[cC] at zl;have dR:g≠id:=by omega
  rcases bW g dR with q|q
  ·rw[q] at hm;exact h.si g c e o f z s zl hm
  ·rw[q.1] at hm;cases hm
 ·rw[cC,aD];exact h.kc
 ·intro x c e f z s hm;rw[a5];by_cases hn:x=id
  ·subst hn;rw[AT] at hm;injection hm with hm
   obtain⟨b1,bn,hT,cZ,dt,_⟩:=dU c e f z s hm;exact h.pX _ _ _ _ _ _ dt
  ·rcases bW x hn with q|q
   ·rw[q] at hm;exact h.pX x c e f z s hm
   ·rw[q.1] at hm;cases hm
 ·intro f l x ay I;rw[aD];rcases DJ f l ay with ay|⟨rfl,an⟩
  ·obtain⟨a,d⟩:=h.kQ f l x ay I;refine⟨a,?_⟩;rcases d with d|d
   ·by_cases hn:x=id
    ·subst hn;left;rw[AT];exact Tb d
    ·rcases bW x hn with q|q
     ·left;rw[q];exact d
     ·right;exact q.1
   ·right;exact p7 x d
  ·simp at I;subst I;exact⟨h.lt _ _ bB,.inl (by rw[AT];exact an)⟩
 ·intro f l ay;rcases DJ f l ay with ay|⟨rfl,_⟩
  ·refine(h.tF f l ay).imp ?_;intro x y fp c e f z s b1 bn dj hT cZ q dt;obtain⟨bx,ve,kG,s1,aZ,aR⟩:=hJ x c e f z s q;obtain⟨bT,amI,nx,s2,bY,ep⟩:=hJ y b1 bn dj hT cZ dt;have:=fp _ _ _ _ _ _ _ _ _ _ aZ bY;omega
  ·exact PS _ _
 ·intro x I jy;refine⟨jy,fun an=>?_⟩;have hn:x≠id:=fun e=>by subst e;rw[bB] at jy;cases jy
  rcases bW x hn with q|q
  ·exact q
  ·rcases q.2 with r|r
   ·rw[an] at r;cases r
   ·rw[q.1,r]
theorem bR.kill(h:bR P B w0 μ H w)(aD:H'.af=H.af)(a5:H'.cd=H.cd)(cC:H'.bq=H.bq)
 (bW:∀x,H'.mem.get x=H.mem.get x\/(H'.mem.get x=some .dead/\(jU (H.mem.get x)=true\/H.mem.get x=some .dead)))
 (K6:∀f l,H.br.get f=some l->∃l',H'.br.get f=some l'/\l'.Sublist l/\∀x,x∈l->x∉l'->H'.mem.get x=some .dead)
 (DJ:∀f l',H'.br.get f=some l'->∃l,H.br.get f=some l/\l'.Sublist l):
 bR P B w0 μ H' w/\Step μ μ H H':=by
 have p7:∀x,H.mem.get x=some .dead->H'.mem.get x=some .dead:=fun x I=>by
  rcases bW x with q|q
  ·rw[q,I]
  ·exact q.1
 have nR:∀x f,vM H x f->H'.mem.get x=some .dead\/vM H' x f:=fun x f I=>by
  obtain⟨c,e,z,s,q⟩:=I;rcases bW x with p|p
  ·right;exact⟨c,e,z,s,by rw[p];exact q⟩
  ·left;exact p.1
 have hJ:∀x c e f z s,H'.mem.get x=some (.row c e true f z s)->H.mem.get x=some (.row c e true f z s):=fun x c e f z s hm=>by
  rcases bW x with q|q
  ·rw[q] at hm;exact hm
  ·rw[q.1] at hm;cases hm
 refine⟨⟨h.below,h.nf,?_,?_,?_,?_,?_,?_,?_,?_,?_,?_⟩,⟨Ext.refl _,by omega,cC,?_⟩⟩
 ·intro x bw I;obtain⟨b,o,dS,ho,hp⟩:=h.fS x bw I;rcases bW x with q|q
  ·exact⟨b,o,by rw[q];exact dS,ho,hp⟩
  ·exact⟨.dead,o,q.1,ho,by cases o<;>simp[jm]⟩
 ·intro x y fE gF fp I ah nm;rcases h.sep x y fE gF fp I ah nm with d|d|⟨f,l,q,dt,ay,ct,eM⟩
  ·exact .inl (p7 x d)
  ·exact .inr (.inl (p7 y d))
  ·rcases nR x f q with d|q
   ·exact .inl d
   ·rcases nR y f dt with d|dt
    ·exact .inr (.inl d)
    ·obtain⟨l',aa,_,aK⟩:=K6 f l ay;by_cases kU:x∈l'
     ·by_cases E7:y∈l'
      ·exact .inr (.inr ⟨f,l',q,dt,aa,kU,E7⟩)
      ·exact .inr (.inl (aK y eM E7))
     ·exact .inl (aK x ct kU)
 ·intro x bw I;rw[aD];exact h.lt x bw I
 ·intro x bw I fe;rw[cC] at fe;exact h.own x bw I fe
 ·intro x bw I fe dL;rw[cC] at fe;exact h.new x bw I fe fun q=>dL (p7 x q)
 ·intro g c e o f z s zl hm;rw[cC] at zl;rcases bW g with q|q
  ·rw[q] at hm;exact h.si g c e o f z s zl hm
  ·rw[q.1] at hm;cases hm
 ·rw[cC,aD];exact h.kc
 ·intro x c e f z s hm;rw[a5];exact h.pX x c e f z s (hJ x c e f z s hm)
 ·intro f l x ay I;rw[aD];obtain⟨l0,aa,ab⟩:=DJ f l ay;obtain⟨a,d⟩:=h.kQ f l0 x aa (ab.mem I);refine⟨a,?_⟩;rcases bW x with q|q
  ·rw[q];exact d
  ·right;exact q.1
 ·intro f l ay;obtain⟨l0,aa,ab⟩:=DJ f l ay;refine((h.tF f l0 aa).sublist ab).imp ?_;intro x y fp c e f z s b1 bn dj hT cZ q dt;exact fp _ _ _ _ _ _ _ _ _ _ (hJ _ _ _ _ _ _ q) (hJ _ _ _ _ _ _ dt)
 ·intro x I jy;refine⟨jy,fun an=>?_⟩;rcases bW x with q|q
  ·exact q
  ·rcases q.2 with r|r
   ·rw[an] at r;cases r
   ·rw[q.1,r]
theorem We(h:bR P B w0 μ H w){f:Nat}{l l0:List Nat}{cells:List Value}{elem:TypeId}{eD:Nat}{sh:Bool}(ay:H.br.get f=some l0)(kf:l.Sublist l0)
 (ch:∀m,H'.mem.get m=if m=H.af then some (.row cells elem true f eD sh) else H.mem.get m)
 (js:∀m,H'.br.get m=if m=f then some (H.af::l) else H.br.get m)(vF:∀y∈l,∀c e f z s,H.mem.get y=some (.row c e true f z s)->c.length<=cells.length):
 ∀dj l',H'.br.get dj=some l'->Kh H' l':=by
 have UO:∀dj l',H.br.get dj=some l'->Kh H' l':=fun dj l' de=>by
  refine(h.tF dj l' de).imp_of_mem ?_;intro x y I ah fp c e f1 z s b1 bn f2 hT cZ q dt;have fe:=(h.kQ dj l' x de I).1;have ld:=(h.kQ dj l' y de ah).1;rw[ch,aq (by omega)] at q dt;exact fp _ _ _ _ _ _ _ _ _ _ q dt
 intro dj l' de;rw[js] at de;split at de
 ·injection de with de;subst de
  refine PR.2 ⟨fun y ah c e f1 z s b1 bn f2 hT cZ q dt=>?_,(UO f l0 ay).sublist kf⟩;have ld:=(h.kQ f l0 y ay (kf.mem ah)).1;rw[ch,aF rfl] at q;rw[ch,aq (by omega)] at dt;injection q with q;injection q with q;subst q
  exact vF y ah _ _ _ _ _ dt
 ·exact UO dj l' de
theorem bR.Vs(h:bR P B w0 μ H w){f:Nat}{l l0:List Nat}{cells:List Value}{elem:TypeId}{eD:Nat}{sh:Bool}{o:Obj}{L:Loc}(ay:H.br.get f=some l0)(kf:l.Sublist l0)(ER:∀x,x∈l0->x∉l->H.mem.get x=some .dead)(aw:f<H.cd)
 (aD:H'.af=H.af+1)(a5:H'.cd=H.cd)(e0:H'.bq=H.bq)(ch:∀m,H'.mem.get m=if m=H.af then some (.row cells elem true f eD sh) else H.mem.get m)
 (js:∀m,H'.br.get m=if m=f then some (H.af::l) else H.br.get m)(vF:∀y∈l,∀c e f z s,H.mem.get y=some (.row c e true f z s)->c.length<=cells.length)
 (ax:L.r=w.heap.size)(ai:jm P (μ.put H.af L) L (.row cells elem true f eD sh) o):
 bR P B w0 (μ.put H.af L) H' (w.alloc o)/\Step μ (μ.put H.af L) H H':=by
 have g9:=h.tE L;have eO:∀x bw,(μ.put H.af L) x=some bw->x≠H.af->μ x=some bw:=fun x bw a b=>by rwa [bH.sU _ _ b] at a
 have cP:∀x bw,μ x=some bw->bw.r<w.heap.size:=fun x bw I=>by
  obtain⟨b',o',_,an,_⟩:=h.fS x bw I;rcases jo bw.r w.heap.size with ez|ez
  ·exact ez
  ·rw[rT ez] at an;cases an
 refine⟨⟨h.below.alloc h.nf o,?_,?_,?_,?_,?_,?_,?_,?_,?_,?_,?_⟩,⟨g9,by omega,e0,?_⟩⟩
 ·intro k aH;have:=h.nf k aH;show k<(w.heap.push o).size;rw[Pr];omega
 ·intro x bw I;by_cases dg:x=H.af
  ·subst dg;rw[bH.jB] at I;injection I with I;subst I
   exact⟨_,o,by rw[ch];simp,by rw[Be,ax];simp,ai⟩
  ·have fe:=eO x bw I dg;obtain⟨b',o',aa,ab,aK⟩:=h.fS x bw fe;exact⟨b',o',by rw[ch,aq dg];exact aa,by rw[Be,aq (by have:=cP x bw fe;omega)];exact ab,aK.mono g9⟩
 ·intro x y fE gF fp I ah nm;by_cases dg:x=H.af
  ·subst dg;rw[bH.jB] at I;injection I with I;subst I
   have:=cP y gF (eO y gF ah (Ne.symm fp));omega
  ·by_cases kz:y=H.af
   ·subst kz;rw[bH.jB] at ah;injection ah with ah;subst ah
    have:=cP x fE (eO x fE I dg);omega
   ·rcases h.sep x y fE gF fp (eO x fE I dg) (eO y gF ah kz) nm with d|d|⟨dj,l',⟨c,e,z,s,q⟩,⟨b1,bn,hT,cZ,dt⟩,de,ct,eM⟩
    ·exact .inl (by rw[ch,aq dg];exact d)
    ·exact .inr (.inl (by rw[ch,aq kz];exact d))
    ·by_cases pi:dj=f
     ·subst pi;rw[ay] at de;injection de with de;subst de
      by_cases mW:x∈l
      ·by_cases E4:y∈l
       ·exact .inr (.inr ⟨dj,H.af::l,⟨c,e,z,s,by rw[ch,aq dg];exact q⟩,⟨b1,bn,hT,cZ,by rw[ch,aq kz];exact dt⟩,by rw[js];simp,by simp[mW],by simp[E4]⟩)
       ·exact .inr (.inl (by rw[ch,aq kz];exact ER y eM E4))
      ·exact .inl (by rw[ch,aq dg];exact ER x ct mW)
     ·exact .inr (.inr ⟨dj,l',⟨c,e,z,s,by rw[ch,aq dg];exact q⟩,⟨b1,bn,hT,cZ,by rw[ch,aq kz];exact dt⟩,by rw[js,aq pi];exact de,ct,eM⟩)
 ·intro x bw I;by_cases dg:x=H.af
  ·omega
  ·have:=h.lt x bw (eO x bw I dg);omega
 ·intro x bw I ar;rw[e0] at ar;have dg:x≠H.af:=by have:=h.kc;omega
  exact h.own x bw (eO x bw I dg) ar
 ·intro x bw I ar dL;rw[e0] at ar;by_cases dg:x=H.af
  ·subst dg;rw[bH.jB] at I;injection I with I;subst I
   rw[ax];exact fun q=>C1 _ (h.nf _ q)
  ·exact h.new x bw (eO x bw I dg) ar (by rw[ch,aq dg] at dL;exact dL)
 ·intro g c e o f z s ar hm;rw[e0] at ar;have ky:g≠H.af:=by have:=h.kc;omega
  rw[ch,aq ky] at hm;obtain⟨bw,bB⟩:=h.si g c e o f z s ar hm;exact⟨bw,g9 _ _ bB⟩
 ·rw[e0,aD];have:=h.kc;omega
 ·intro x c e dj z s hm;rw[ch] at hm;split at hm
  ·injection hm with hm;injection hm with _ _ _ hm;omega
  ·have:=h.pX x c e dj z s hm;omega
 ·intro dj l' x de I;rw[js] at de;split at de
  ·injection de with de;subst de
   simp at I;rcases I with I|I
   ·subst I;exact⟨by omega,.inl (by rw[ch];simp[jU])⟩
   ·obtain⟨a,d⟩:=h.kQ f l0 x ay (kf.mem I);exact⟨by omega,by rw[ch,aq (by omega)];exact d⟩
  ·obtain⟨a,d⟩:=h.kQ dj l' x de I;exact⟨by omega,by rw[ch,aq (by omega)];exact d⟩
 ·exact We h ay kf ch js vF
 ·intro x I jy;have dg:x≠H.af:=by omega
  exact⟨by rw[bH.sU _ _ dg];exact jy,fun _=>by rw[ch,aq dg]⟩
theorem bR.ah1(h:bR P B w0 μ H w){f id:Nat}{l l0:List Nat}{cells:List Value}{elem:TypeId}{eD:Nat}{sh:Bool}{o o':Obj}{L:Loc}(ay:H.br.get f=some l0)(kf:l.Sublist l0)(ER:∀x,x∈l0->x∉l->H.mem.get x=some .dead)(aw:f<H.cd)(bB:μ id=some L)(ar:H.bq<=id)(Hw:¬B L.r)
 (aD:H'.af=H.af+1)(a5:H'.cd=H.cd)(e0:H'.bq=H.bq)(ch:∀m,H'.mem.get m=if m=H.af then some (.row cells elem true f eD sh) else H.mem.get m)
 (js:∀m,H'.br.get m=if m=f then some (H.af::l) else H.br.get m)(vF:∀y∈l,∀c e f z s,H.mem.get y=some (.row c e true f z s)->c.length<=cells.length)
 (ri:∀y bw,μ y=some bw->bw.r=L.r->H.mem.get y=some .dead\/(vM H y f/\y∈l/\∃b,H.mem.get y=some b/\jm P μ bw b o'))
 (ai:jm P μ L (.row cells elem true f eD sh) o'):
 bR P B w0 (μ.put H.af L) H' {w with heap:=w.heap.setIfInBounds L.r o'}/\Step μ (μ.put H.af L) H H':=by
 have _:=o;have g9:=h.tE L;have eO:∀x bw,(μ.put H.af L) x=some bw->x≠H.af->μ x=some bw:=fun x bw a b=>by rwa [bH.sU _ _ b] at a
 have LQ:L.r<w.heap.size:=by
  obtain⟨b,o,_,an,_⟩:=h.fS id L bB;rcases jo L.r w.heap.size with ez|ez
  ·exact ez
  ·rw[rT ez] at an;cases an
 have fg:∀r,({w with heap:=w.heap.setIfInBounds L.r o'}:World).heap[r]?=if r=L.r then some o' else w.heap[r]?:=fun r=>by
  show(w.heap.setIfInBounds L.r o')[r]?=_;rw[yk];by_cases ax:L.r=r
  ·subst ax;simp[LQ]
  ·rw[aq ax,aq (Ne.symm ax)]
 have mV:vM H' H.af f:=⟨cells,elem,eD,sh,by rw[ch];simp⟩;have adi:H'.br.get f=some (H.af::l):=by rw[js];simp
 have side:∀y gF,y≠H.af->μ y=some gF->gF.r=L.r->Pn H' H.af y:=fun y gF kz ah nm=>by
  rcases ri y gF ah nm with d|⟨⟨c,e,z,s,q⟩,m,_⟩
  ·exact .inr (.inl (by rw[ch,aq kz];exact d))
  ·exact .inr (.inr ⟨f,_,mV,⟨c,e,z,s,by rw[ch,aq kz];exact q⟩,adi,by simp,by simp[m]⟩)
 refine⟨⟨⟨h.below.os,h.below.tape,h.below.output,?_,?_⟩,?_,?_,?_,?_,?_,?_,?_,?_,?_,?_,?_⟩,⟨g9,by omega,e0,?_⟩⟩
 ·show w0.heap.size<=(w.heap.setIfInBounds L.r o').size;rw[Gj];exact h.below.size
 ·intro k aH;rw[fg,aq (fun e=>by subst e;exact Hw aH)];exact h.below.block k aH
 ·intro k aH;show k<(w.heap.setIfInBounds L.r o').size;rw[Gj];exact h.nf k aH
 ·intro x bw I;by_cases dg:x=H.af
  ·subst dg;rw[bH.jB] at I;injection I with I;subst I
   exact⟨_,o',by rw[ch];simp,by rw[fg];simp,ai.mono g9⟩
  ·have fe:=eO x bw I dg;by_cases ax:bw.r=L.r
   ·rcases ri x bw fe ax with d|⟨_,_,b,aZ,aR⟩
    ·exact⟨.dead,o',by rw[ch,aq dg];exact d,by rw[fg,aF ax],by cases o'<;>simp[jm]⟩
    ·exact⟨b,o',by rw[ch,aq dg];exact aZ,by rw[fg,aF ax],aR.mono g9⟩
   ·obtain⟨b',vU,aa,ab,aK⟩:=h.fS x bw fe;exact⟨b',vU,by rw[ch,aq dg];exact aa,by rw[fg,aq ax];exact ab,aK.mono g9⟩
 ·intro x y fE gF fp I ah nm;by_cases dg:x=H.af
  ·subst dg;rw[bH.jB] at I;injection I with I;subst I
   exact side y gF (Ne.symm fp) (eO y gF ah (Ne.symm fp)) nm.symm
  ·by_cases kz:y=H.af
   ·subst kz;rw[bH.jB] at ah;injection ah with ah;subst ah
    rcases side x fE dg (eO x fE I dg) nm with d|d|⟨dj,l',q,dt,de,ct,eM⟩
    ·exact .inr (.inl d)
    ·exact .inl d
    ·exact .inr (.inr ⟨dj,l',dt,q,de,eM,ct⟩)
   ·rcases h.sep x y fE gF fp (eO x fE I dg) (eO y gF ah kz) nm with d|d|⟨dj,l',⟨c,e,z,s,q⟩,⟨b1,bn,hT,cZ,dt⟩,de,ct,eM⟩
    ·exact .inl (by rw[ch,aq dg];exact d)
    ·exact .inr (.inl (by rw[ch,aq kz];exact d))
    ·by_cases pi:dj=f
     ·subst pi;rw[ay] at de;injection de with de;subst de
      by_cases mW:x∈l
      ·by_cases E4:y∈l
       ·exact .inr (.inr ⟨dj,H.af::l,⟨c,e,z,s,by rw[ch,aq dg];exact q⟩,⟨b1,bn,hT,cZ,by rw[ch,aq kz];exact dt⟩,by rw[js];simp,by simp[mW],by simp[E4]⟩)
       ·exact .inr (.inl (by rw[ch,aq kz];exact ER y eM E4))
      ·exact .inl (by rw[ch,aq dg];exact ER x ct mW)
     ·exact .inr (.inr ⟨dj,l',⟨c,e,z,s,by rw[ch,aq dg];exact q⟩,⟨b1,bn,hT,cZ,by rw[ch,aq kz];exact dt⟩,by rw[js,aq pi];exact de,ct,eM⟩)
 ·intro x bw I;by_cases dg:x=H.af
  ·omega
  ·have:=h.lt x bw (eO x bw I dg);omega
 ·intro x bw I ar;rw[e0] at ar;have dg:x≠H.af:=by have:=h.kc;omega
  exact h.own x bw (eO x bw I dg) ar
 ·intro x bw I ar dL;rw[e0] at ar;by_cases dg:x=H.af
  ·subst dg;rw[bH.jB] at I;injection I with I;subst I
   exact Hw
  ·exact h.new x bw (eO x bw I dg) ar (by rw[ch,aq dg] at dL;exact dL)
 ·intro g c e o f z s ar hm;rw[e0] at ar;have ky:g≠H.af:=by have:=h.kc;omega
  rw[ch,aq ky] at hm;obtain⟨bw,bB⟩:=h.si g c e o f z s ar hm;exact⟨bw,g9 _ _ bB⟩
 ·rw[e0,aD];have:=h.kc;omega
 ·intro x c e dj z s hm;rw[ch] at hm;split at hm
  ·injection hm with hm;injection hm with _ _ _ hm;omega
  ·have:=h.pX x c e dj z s hm;omega
 ·intro dj l' x de I;rw[js] at de;split at de
  ·injection de with de;subst de
   simp at I;rcases I with I|I
   ·subst I;exact⟨by omega,.inl (by rw[ch];simp[jU])⟩
   ·obtain⟨a,d⟩:=h.kQ f l0 x ay (kf.mem I);exact⟨by omega,by rw[ch,aq (by omega)];exact d⟩
  ·obtain⟨a,d⟩:=h.kQ dj l' x de I;exact⟨by omega,by rw[ch,aq (by omega)];exact d⟩
 ·exact We h ay kf ch js vF
 ·intro x I jy;have dg:x≠H.af:=by omega
  exact⟨by rw[bH.sU _ _ dg];exact jy,fun _=>by rw[ch,aq dg]⟩
theorem Iy{oH:Nat}:∀{l:List Nat} {H H':ao},rz H oH l=some H'->H'.af=H.af/\H'.br=H.br/\H'.cd=H.cd/\H'.bq=H.bq/\
 (∀x,x∈l->x≠oH->H'.mem.get x=some .dead)/\(∀x,x∉l\/x=oH->H'.mem.get x=H.mem.get x):=by
 intro l;induction l with
 |nil=>intro H H' h;simp[rz] at h;subst h;exact⟨rfl,rfl,rfl,rfl,fun x I=>by simp at I,fun x _=>rfl⟩
 |cons y l aG=>
  intro H H' h;simp only[rz] at h;cases ah:Nat.beq y oH with
  |true=>
   rw[ah] at h;have E8:=eK ah;obtain⟨bl,bF,bO,b3,c2,cX⟩:=aG (by simpa using h);refine⟨bl,bF,bO,b3,fun x I dR=>?_,fun x I=>?_⟩
   ·simp at I;rcases I with rfl|I
    ·exact absurd E8 dR
    ·exact c2 x I dR
   ·refine cX x ?_;rcases I with I|I
    ·left;simp at I;exact I.2
    ·right;exact I
  |false=>
   rw[ah] at h;have E8:y≠oH:=fun e=>by subst e;simp at ah
   simp only[dN] at h;cases hu:H.upd y .dead with
   |none=>rw[hu] at h;cases h
   |some H1=>
    rw[hu] at h;obtain⟨bE,bS,cJ,gy,nD⟩:=ao.pF hu;obtain⟨bl,bF,bO,b3,c2,cX⟩:=aG h;refine⟨by omega,by rw[bF,bS],by omega,by omega,fun x I dR=>?_,fun x I=>?_⟩
    ·by_cases kU:x∈l
     ·exact c2 x kU dR
     ·have fp:x=y:=by simp at I;rcases I with q|q;exact q;exact absurd q kU
      rw[cX x (.inl kU),nD,aF fp]
    ·have fp:x≠y:=by
      rcases I with q|q
      ·simp at q;exact q.1
      ·rw[q];exact Ne.symm E8
     have:x∉l\/x=oH:=by
      rcases I with q|q
      ·left;simp at q;exact q.2
      ·right;exact q
     rw[cX x this,nD,aq fp]
theorem ZL{id:Nat}:∀{l l':List Nat} {H H':ao},wY H id l=some (l',H')->H'.af=H.af/\H'.br=H.br/\H'.cd=H.cd/\H'.bq=H.bq/\l'.Sublist l/\id∈l'/\H'.mem.get id=H.mem.get id/\
 (∀x,x∈l->x∉l'->H'.mem.get x=some .dead)/\(∀x,H'.mem.get x=H.mem.get x\/(H'.mem.get x=some .dead/\x∈l))/\(∃pre,l=pre++l'/\l'=id::l'.tail):=by
 intro l;induction l with
 |nil=>intro l' H H' h;simp[wY] at h
 |cons y l aG=>
  intro l' H H' h;simp only[wY] at h;cases ah:Nat.beq y id with
  |true=>
   rw[ah,cc] at h;simp only[b6,da] at h;obtain⟨rfl,rfl⟩:=h;have:=eK ah;subst this;exact⟨rfl,rfl,rfl,rfl,bV _,by simp,rfl,fun x a b=>absurd a b,fun x=>.inl rfl,[],rfl,rfl⟩
  |false=>
   rw[ah,dN] at h;have E8:y≠id:=fun e=>by subst e;simp at ah
   cases hu:H.upd y .dead with
   |none=>rw[hu] at h;cases h
   |some H1=>
    rw[hu] at h;obtain⟨bE,bS,cJ,gy,nD⟩:=ao.pF hu;obtain⟨bl,bF,bO,b3,c2,cX,g5,g6,gx,pre,wF,nB⟩:=aG h;refine⟨by omega,by rw[bF,bS],by omega,by omega,c2.cons _,cX,by rw[g5,nD,aq (Ne.symm E8)],fun x I kU=>?_,fun x=>?_,y::pre,by rw[wF];rfl,nB⟩
    ·by_cases fe:x∈l
     ·exact g6 x fe kU
     ·have fp:x=y:=by simp at I;rcases I with q|q;exact q;exact absurd q fe
      rcases gx x with q|q
      ·rw[q,nD,aF fp]
      ·exact q.1
    ·rcases gx x with q|q
     ·rw[nD] at q;split at q
      ·rename_i fp;exact .inr ⟨q,by simp[fp]⟩
      ·exact .inl q
     ·exact .inr ⟨q.1,by simp[q.2]⟩
end
end
end Go.Cre

/- A part of the proof of TableBounds. -/
import Derived.Test.YtccpobhlccjkiaaGreatDoorCaj
import Derived.Test.YtccpobhlccjkiaaGreatDoorCai
set_option linter.defProp false
set_option linter.unusedVariables false
set_option maxRecDepth 100000
set_option maxHeartbeats 4000000
set_option linter.unusedSimpArgs false
namespace Go.Opn
noncomputable section
structure fu where
 cn:Int
 many:Int
 gE:Int
structure mq where
 cn:Int
 level:Nat
 seen:List Int
structure ez where
 l:List Int
 cW:Int
 ns:List dn
 is:List (Int×Int)
 vs:List mq
 dx:List (List (List Int))
open Classical
def fm(l:List Int)(n:Int):Int:=match l with|[]=>0|x::_=>if n<1 then 0 else x % n
def hj(l:List Int)(n:Int):List Int:=match l with|[]=>[]|x::r=>if n<1 then x::r else r
def qX{l:List Int}{n:Int}(h:1<=n):0<=fm l n/\fm l n<n:=by
 cases l with
 |nil=>show 0<=(0:Int)/\(0:Int)<n;omega
 |cons x r=>
  show 0<=(if n<1 then(0:Int) else x % n)/\(if n<1 then(0:Int) else x % n)<n;rw[aG aa];exact⟨GN _ aa,GM _ aa⟩
def pB:Nat->List Int->List Int×List Int
 |0,l=>([],l)
 |n+1,l=>((fm l 7 -3)::(pB n (hj l 7)).1,(pB n (hj l 7)).2)
def awo:∀(n:Nat) (l:List Int),(pB n l).1.length=n/\∀w∈(pB n l).1,-3<=w/\w<=3:=by
 intro n;induction n with
 |zero=>intro l;exact⟨I,fun w h=>by cases h⟩
 |succ n aC=>
  intro l;obtain⟨ae,ag⟩:=aC (hj l 7);refine⟨by show _+1=_;rw[ae],fun w hw=>?_⟩;rcases fs.1 hw with q|q
  ·have:=qX (l:=l) (n:=7) aa;omega
  ·exact ag w q
def yw(pl:Nat)(a:Nat)(σ:ez):ez:={σ with l:=(pB pl σ.l).2,ns:=σ.ns.set a ⟨3,0,0,[],[],(pB pl σ.l).1⟩}
def mw (v:mq):List mq->Nat->Option Nat
 |[],_=>none
 |w::r,i=>if w=v then some i else mw v r (i+1)
def MC{v:mq}:∀{l:List mq} {i k:Nat},mw v l i=some k->i<=k/\l[k -i]?=some v:=by
 intro l;induction l with
 |nil=>intro i k h;cases h
 |cons w r aC=>
  intro i k h;unfold mw at h;split at h
  ·rename_i q;injection h with h;subst h;subst q;simp
  ·obtain⟨ae,ag⟩:=aC h;refine⟨aa,?_⟩;rw[show k -i=(k -(i+1))+1 by omega,Ln];exact ag
def Pf(p:fu)(q:Nat):Bool:=decide (p.gE / 2 ^ q % 2=1)
def xF(p:fu)(i:Nat)(q:Nat):Int:=if(q:Int)=p.cn\/Pf p q=true then(i:Int) else -1
def mF(p:fu)(i:Nat)(seen:List (List Int)):List (List Int):=seen.mapIdx fun q s=>s++[xF p i q]
def xV (k:Int)(ns:List dn):Bool:=ns.any fun x=>decide (x.k=2/\x.i=k)
def kW (info cn:Int)(σ:ez):ez:=
 if cn<0\/info≠(σ.is.length:Int) -1 then σ
 else if xV info σ.ns=true then σ
 else{σ with is:=σ.is.take info.toNat,vs:=σ.vs.take (σ.vs.length -1)}
def eV (p:fu)(L:Nat)(s:List Int)(σ:ez):ez×Nat:=match mw ⟨p.cn,L,s⟩ σ.vs 0 with
 |some k=>(σ,k)
 |none=>({σ with l:=hj σ.l 3,vs:=σ.vs++[⟨p.cn,L,s⟩],is:=σ.is++[(p.cn,1+fm σ.l 3)]},σ.vs.length)
def kids(rec:List (List Int)->ez->ez)(p:fu)(seen:List (List Int)):Nat->Nat->ez->List Int->List Int->ez×List Int×List Int
 |0,_,σ,ao,ws=>(σ,ao,ws)
 |k+1,i,σ,ao,ws=>
  if p.cn<0 then kids rec p seen k (i+1) (rec (mF p i seen) {σ with l:=hj σ.l 3}) (ao++[(σ.ns.length:Int)]) (ws++[1+fm σ.l 3])
  else kids rec p seen k (i+1) (rec (mF p i seen) σ) (ao++[(σ.ns.length:Int)]) ws
def mg(seen:List (List Int))(σ:ez):ez:={σ with cW:=σ.cW -1,ns:=σ.ns++[⟨0,0,0,[],[],[]⟩],dx:=σ.dx++[seen]}
def fN(p:fu)(seen:List (List Int)):List Int:=(seen[p.cn.toNat]?).getD []
def tt (k:Nat)(σ:ez):Int:=match σ.is[k]? with|some y=>y.2|none=>0
def oI (most:Int)(pl:Nat):List fu->Nat->List (List Int)->ez->ez
 |[],_,seen,σ=>yw pl σ.ns.length (mg seen σ)
 |p::lv,L,seen,σ=>
  let a:=σ.ns.length
  let Xn:=mg seen σ
  let fV:={Xn with l:=hj Xn.l 8}
  if fm Xn.l 8=1 then yw pl a fV
  else if p.cn<0 then
   if most<(a:Int)+1+fV.cW+p.many then yw pl a fV
   else
    let r:=kids (oI most pl lv (L+1)) p seen p.many.toNat 0 {fV with cW:=fV.cW+p.many} [] []
    {r.1 with ns:=r.1.ns.set a ⟨1,0,0,r.2.1,r.2.2,[]⟩}
  else
   let f:=eV p L (fN p seen) fV
   let m:=tt f.2 f.1
   if most<(a:Int)+1+f.1.cW+m then yw pl a (kW f.2 p.cn f.1)
   else
    let r:=kids (oI most pl lv (L+1)) p seen m.toNat 0 {f.1 with cW:=f.1.cW+m} [] []
    {r.1 with ns:=r.1.ns.set a ⟨2,p.cn,f.2,r.2.1,r.2.2,[]⟩}
def FM(pl:Nat)(cL:List fu):Prop:=∀p∈cL,-1<=p.cn/\p.cn<pl/\2<=p.many/\p.many<=3
structure Bs (pl:Nat) (cL:List fu) (σ:ez) (c:Nat) (x:dn) (hv:List (List Int)) (L:Nat):Prop where
 U:σ.ns[c]?=some x
 Fp:σ.dx[c]?=some hv
 aA:hv.length=pl
 hle:∀s∈hv,s.length=L
 hk:∀(i:Nat) (d:Int),x.ao[i]?=some d->(c:Int)<d/\d<σ.ns.length/\∃P,cL[L]?=some P/\σ.dx[d.toNat]?=some (mF P i hv)
 tM:(x.k=3/\x.p=0/\x.i=0/\x.ao=[]/\x.ws=[]/\x.im.length=pl/\∀w∈x.im,-3<=w/\w<=3)\/
  (x.k=1/\x.p=0/\x.i=0/\x.im=[]/\x.ws.length=x.ao.length/\2<=x.ao.length/\x.ao.length<=3/\(∀w∈x.ws,1<=w/\w<=3)/\∃P,cL[L]?=some P/\P.cn<0)\/
  (x.k=2/\x.im=[]/\x.ws=[]/\1<=x.ao.length/\x.ao.length<=3/\∃(P:fu) (s:List Int) (k:Nat),cL[L]?=some P/\0<=P.cn/\x.p=P.cn/\x.i=(k:Int)/\hv[P.cn.toNat]?=some s/\mw ⟨P.cn,L,s⟩ σ.vs 0=some k/\σ.is[k]?=some (P.cn,(x.ao.length:Int)))
structure Ext (a:Nat) (σ lb:ez):Prop where
 ns:∀c,c<a->lb.ns[c]?=σ.ns[c]?
 dx:∀c,c<σ.dx.length->lb.dx[c]?=σ.dx[c]?
 vs:∀k,k<σ.vs.length->lb.vs[k]?=σ.vs[k]?
 is:∀k,k<σ.is.length->lb.is[k]?=σ.is[k]?
 FX:σ.ns.length<=lb.ns.length
 dg:σ.dx.length<=lb.dx.length
 h1:σ.vs.length<=lb.vs.length
 JH:σ.is.length<=lb.is.length
def Ext.trans{a b:Nat}{σ lb ahV:ez}(h:Ext a σ lb)(h4:Ext b lb ahV)(hr:a<=b):Ext a σ ahV:=
 ⟨fun c ax=>(h4.ns c aa).trans (h.ns c ax),fun c ax=>(h4.dx c (by have:=h.dg;omega)).trans (h.dx c ax),fun k hk=>(h4.vs k (by have:=h.h1;omega)).trans (h.vs k hk),fun k hk=>(h4.is k (by have:=h.JH;omega)).trans (h.is k hk),dT h.FX h4.FX,dT h.dg h4.dg,dT h.h1 h4.h1,dT h.JH h4.JH⟩
def nk{α:Type}{l:List α}{i:Nat}{x:α}(h:l[i]?=some x):i<l.length:=(dO.1 h).1
def aai{v:mq}:∀{l a9:List mq} {i k:Nat},(∀k,k<l.length->a9[k]?=l[k]?)->mw v l i=some k->mw v a9 i=some k:=by
 intro l;induction l with
 |nil=>intro a9 i k _ h;cases h
 |cons w r aC=>
  intro a9 i k hs h;have aQ:=hs 0 (by simp);cases a9 with
  |nil=>simp at aQ
  |cons a' cu=>
   simp at aQ;subst aQ;unfold mw at h ⊢;split at h
   ·rename_i q;rw[aP q];exact h
   ·rename_i q;rw[aG q];exact aC (fun k hk=>by have:=hs (k+1) (by simp;omega);simpa using this) h
def anH{v:mq}:∀{l:List mq} {i:Nat},mw v l i=none->mw v (l++[v]) i=some (i+l.length):=by
 intro l;induction l with
 |nil=>intro i _;show(if v=v then some i else _)=_;rw[aP I];rfl
 |cons w r aC=>
  intro i h;unfold mw at h;split at h
  ·cases h
  ·rename_i q;show(if w=v then some i else mw v (r++[v]) (i+1))=_;rw[aG q,aC h];simp;omega
def Bs.ext{pl:Nat}{cL:List fu}{σ lb:ez}{c:Nat}{x:dn}{hv:List (List Int)}{L a:Nat}(h:Bs pl cL σ c x hv L)(he:Ext a σ lb)(ax:c<a\/lb.ns[c]?=σ.ns[c]?):Bs pl cL lb c x hv L:=by
 refine⟨?_,(he.dx c (nk h.Fp)).trans h.Fp,h.aA,h.hle,fun i d av=>?_,?_⟩
 ·rcases ax with ax|ax
  ·exact(he.ns c ax).trans h.U
  ·exact ax.trans h.U
 ·obtain⟨ae,ag,P,aE,a6⟩:=h.hk i d av;exact⟨ae,by have:=he.FX;omega,P,aE,(he.dx _ (nk a6)).trans a6⟩
 ·rcases h.tM with q|q|⟨aN,aH,bo,db,fH,P,s,k,dc,c9,fI,iL,q4,A3,uu⟩
  ·exact .inl q
  ·exact .inr (.inl q)
  ·exact .inr (.inr ⟨aN,aH,bo,db,fH,P,s,k,dc,c9,fI,iL,q4,aai he.vs A3,(he.is k (nk uu)).trans uu⟩)
structure kV (most:Int) (L:Nat) (σ:ez):Prop where
 dx:σ.dx.length=σ.ns.length
 is:σ.is.length=σ.vs.length
 lt:∀x∈σ.ns,x.k=2->0<=x.i/\x.i<σ.vs.length
 use:∀(k:Nat) (v:mq),σ.vs[k]?=some v->v.level<L\/∃x∈σ.ns,x.k=2/\x.i=(k:Int)
 ok:∀(k:Nat) (v:mq) (y:Int×Int),σ.vs[k]?=some v->σ.is[k]?=some y->y.1=v.cn/\1<=y.2/\y.2<=3
 sum:(σ.ns.length:Int)+σ.cW<=most
 xX:σ.vs.length<=σ.ns.length
def agT{ns F0:List dn}:∀(f:Nat) (p d:Int) (n bH:Nat) (e:List iv),gq ns f p d n=some (bH,e)->(∀c,n<=c->c<bH->F0[c]?=ns[c]?)->gq F0 f p d n=some (bH,e):=by
 intro f;induction f with
 |zero=>intro p d n bH e h;cases h
 |succ f aC=>
  intro p d n bH e h hs;have aj:=uz _ _ _ _ _ _ h;unfold gq at h ⊢;rw[hs n (b2 _) aj.1];split at h
  ·cases h
  ·rename_i x U;split at h
   ·cases h
   ·rename_i c2 es ag;simp only[cb,c8] at h;obtain⟨rfl,rfl⟩:=h;have key:∀{cs:List Int} {m cz:Nat} {e:List iv},hc (gq ns f n (d+1)) cs m=some (cz,e)->n+1<=m->cz<=c2->m<=ns.length->hc (gq F0 f n (d+1)) cs m=some (cz,e):=by
     intro cs;induction cs with
     |nil=>intro m cz e h _ _ _;exact h
     |cons c cs UK=>
      intro m cz e h hm ak rK;rw[Ad] at h ⊢;split at h
      ·cases h
      ·rename_i ax;rw[aG ax];split at h
       ·cases h
       ·rename_i cX aV b7;have Ap:=uz _ _ _ _ _ _ b7;split at h
        ·cases h
        ·rename_i lO cj cw;simp only[cb,c8] at h;obtain⟨rfl,rfl⟩:=h;have aat:=Ej (fun a b c q=>uz _ _ _ a b c q) cw Ap.2.1;rw[aC _ _ _ _ _ b7 (fun c bb bt=>hs c aa aa)];simp only
         rw[UK cw aa aa Ap.2.1]
    have cI:=(dO.1 U).1;rw[key ag (b2 _) (b2 _) aa]
def akO{ns F0:List dn}{f:Nat}{p d:Int}:∀{cs:List Int} {m cz:Nat} {e:List iv},hc (gq ns f p d) cs m=some (cz,e)->m<=ns.length->(∀c,m<=c->c<cz->F0[c]?=ns[c]?)->hc (gq F0 f p d) cs m=some (cz,e):=by
 intro cs;induction cs with
 |nil=>intro m cz e h _ _;exact h
 |cons c cs aC=>
  intro m cz e h hm hs;rw[Ad] at h ⊢;split at h
  ·cases h
  ·rename_i ax;rw[aG ax];split at h
   ·cases h
   ·rename_i cX aV b7;have Ap:=uz _ _ _ _ _ _ b7;split at h
    ·cases h
    ·rename_i lO cj cw;simp only[cb,c8] at h;obtain⟨rfl,rfl⟩:=h;have aat:=Ej (fun a b c q=>uz _ _ _ a b c q) cw Ap.2.1;rw[agT _ _ _ _ _ _ b7 (fun c bb bt=>hs c aa aa)];simp only
     rw[aC cw Ap.2.1 (fun c bb bt=>hs c aa bt)]
structure Xy (a d':Nat) (σ:ez) (F:Nat->Nat):Prop where
 at_:∀k,d'<=k->k<σ.vs.length->a<=F k/\F k<σ.ns.length/\(∃x,σ.ns[F k]?=some x/\x.k=2/\x.i=(k:Int))/\∀c x,a<=c->σ.ns[c]?=some x->x.k=2->x.i=(k:Int)->F k<=c
 up:∀k fT,d'<=k->k<fT->fT<σ.vs.length->F k<F fT
structure DE (most:Int) (pl:Nat) (cL:List fu) (L:Nat) (seen:List (List Int)) (σ lb:ez):Prop where
 ext:Ext σ.ns.length σ lb
 ir:kV most L lb
 cW:lb.cW=σ.cW -1
 lt:σ.ns.length<lb.ns.length
 ajt:lb.dx[σ.ns.length]?=some seen
 rD:∀c,σ.ns.length<=c->c<lb.ns.length->∃x hv bM,Bs pl cL lb c x hv bM
 agP:∀(f:Nat) (p d:Int),cL.length -L<f->∃es,gq lb.ns f p d σ.ns.length=some (lb.ns.length,es)/\∀e∈es,e.2.1<=d+((cL.length -L:Nat):Int)
 J8:∀(k:Nat) (v:mq),σ.vs.length<=k->lb.vs[k]?=some v->L<=v.level
 fst:∃F,Xy σ.ns.length σ.vs.length lb F
structure P2 (most:Int) (pl:Nat) (cL:List fu) (L:Nat) (seen:List (List Int)) (P:fu) (i k:Nat) (bL gB:ez) (ds:List Int):Prop where
 ext:Ext bL.ns.length bL gB
 ir:kV most (L+1) gB
 cW:gB.cW=bL.cW -k
 n:ds.length=k
 rD:∀c,bL.ns.length<=c->c<gB.ns.length->∃x hv bM,Bs pl cL gB c x hv bM
 bx:∀(f:Nat) (a d:Int),cL.length -(L+1)<f->∃es,hc (gq gB.ns f a d) ds bL.ns.length=some (gB.ns.length,es)/\∀e∈es,e.2.1<=d+((cL.length -(L+1):Nat):Int)
 each:∀(j:Nat) (d:Int),ds[j]?=some d->(bL.ns.length:Int)<=d/\d<gB.ns.length/\gB.dx[d.toNat]?=some (mF P (i+j) seen)
 J8:∀(k:Nat) (v:mq),bL.vs.length<=k->gB.vs[k]?=some v->L+1<=v.level
 fst:∃F,Xy bL.ns.length bL.vs.length gB F
def kV.l{most:Int}{L:Nat}{σ:ez}(h:kV most L σ)(l:List Int):kV most L {σ with l:=l}:=⟨h.dx,h.is,h.lt,h.use,h.ok,h.sum,h.xX⟩
def Ext.refl(a:Nat)(σ:ez):Ext a σ σ:=⟨fun _ _=>rfl,fun _ _=>rfl,fun _ _=>rfl,fun _ _=>rfl,b2 _,b2 _,b2 _,b2 _⟩
def FY{P:fu}{i:Nat}{seen:List (List Int)}:(mF P i seen).length=seen.length:=by unfold mF;simp
def Vv{P:fu}{i L:Nat}{seen:List (List Int)}(h:∀s∈seen,s.length=L):∀s∈mF P i seen,s.length=L+1:=by
 intro s hs;unfold mF at hs;obtain⟨q,b3,rfl⟩:=List.mem_mapIdx.1 hs;rw[dv,h _ (P7 b3)];rfl
def ac5{most:Int}{pl:Nat}{cL:List fu}{L:Nat}{seen:List (List Int)}{P:fu}{rec:List (List Int)->ez->ez}(mc:seen.length=pl)(hg:∀s∈seen,s.length=L)
 (Fk:∀hv σ,kV most (L+1) σ->1<=σ.cW->hv.length=pl->(∀s∈hv,s.length=L+1)->DE most pl cL (L+1) hv σ (rec hv σ)):
 ∀(k i:Nat) (bL:ez) (ao ws:List Int),kV most (L+1) bL->(k:Int)<=bL.cW->∃ds wn,kids rec P seen k i bL ao ws=((kids rec P seen k i bL ao ws).1,ao++ds,ws++wn)/\
  P2 most pl cL L seen P i k bL (kids rec P seen k i bL ao ws).1 ds/\(P.cn<0->wn.length=k/\∀w∈wn,1<=w/\w<=3)/\(0<=P.cn->wn=[]):=by
 intro k;induction k with
 |zero=>
  intro i bL ao ws c4 ap;refine⟨[],[],by simp[kids],⟨Ext.refl _ _,c4,by simp[kids],I,fun c bb bt=>?_,fun f a d ay=>⟨[],I,fun e he=>by cases he⟩,fun j d av=>by simp at av,fun k v ae ag=>?_,⟨fun _=>0,⟨fun k ae ag=>?_,fun k fT ae ag aE=>?_⟩⟩⟩,fun _=>⟨I,fun w hw=>by cases hw⟩,fun _=>rfl⟩
  ·have bt:c<bL.ns.length:=bt;omega
  ·have:=nk ag;have:k<bL.vs.length:=this;omega
  ·have:k<bL.vs.length:=ag;omega
  ·have:fT<bL.vs.length:=aE;omega
 |succ k aC=>
  intro i bL ao ws c4 ap
  --vY first child
  obtain⟨v7,Bm,kz,aF,nv,nW⟩:∃v7 Bm,v7=(if P.cn<0 then{bL with l:=hj bL.l 3} else bL)/\kids rec P seen (k+1) i bL ao ws=kids rec P seen k (i+1) (rec (mF P i seen) v7) (ao++[(bL.ns.length:Int)]) (ws++Bm)/\(P.cn<0->Bm.length=1/\∀w∈Bm,1<=w/\w<=3)/\(0<=P.cn->Bm=[]):=by
   by_cases q:P.cn<0
   ·refine⟨_,[1+fm bL.l 3],I,by rw[aP q];simp only[kids];rw[aP q],fun _=>⟨I,fun w hw=>?_⟩,fun dE=>by omega⟩;simp at hw;subst hw;have:=qX (l:=bL.l) (n:=3) aa;omega
   ·exact⟨_,[],I,by rw[aG q];simp only[kids];rw[aG q,gC],fun dE=>absurd dE q,fun _=>rfl⟩
  have f1:v7.ns=bL.ns:=by rw[kz];split<;>rfl
  have f2:v7.dx=bL.dx:=by rw[kz];split<;>rfl
  have f3:v7.vs=bL.vs:=by rw[kz];split<;>rfl
  have f4:v7.is=bL.is:=by rw[kz];split<;>rfl
  have f5:v7.cW=bL.cW:=by rw[kz];split<;>rfl
  have ar4:kV most (L+1) v7:=by rw[kz];split;exact c4.l _;exact c4
  have du:=Fk (mF P i seen) v7 ar4 (by rw[f5];omega) (by rw[FY];exact mc) (Vv hg);generalize rec (mF P i seen) v7=v8 at du aF;obtain⟨ds,wn,ca,fA,cw,f'⟩:=aC (i+1) v8 (ao++[(bL.ns.length:Int)]) (ws++Bm) du.ir (by rw[du.cW,f5];omega);generalize acM:(kids rec P seen k (i+1) v8 (ao++[(bL.ns.length:Int)]) (ws++Bm)).1=gB at ca fA;have aoW:=du.lt;rw[f1] at aoW;have aDl:=fA.ext.FX;have IA:Ext bL.ns.length bL v8:=by
   have:=du.ext;exact⟨fun c ax=>by rw[<-f1];exact this.ns c (by rw[f1];exact ax),fun c ax=>by rw[<-f2];exact this.dx c (by rw[f2];exact ax),fun c ax=>by rw[<-f3];exact this.vs c (by rw[f3];exact ax),fun c ax=>by rw[<-f4];exact this.is c (by rw[f4];exact ax),by rw[<-f1];exact this.FX,by rw[<-f2];exact this.dg,by rw[<-f3];exact this.h1,by rw[<-f4];exact this.JH⟩
  refine⟨(bL.ns.length:Int)::ds,Bm++wn,by rw[aF,acM,ca];simp,?_,fun q=>?_,fun q=>by rw[nW q,f' q];rfl⟩
  ·rw[aF,acM];obtain⟨ah',pS⟩:=du.fst;obtain⟨aia,nn⟩:=fA.fst;rw[f1,f3] at pS;refine⟨IA.trans fA.ext aa,fA.ir,by rw[fA.cW,du.cW,f5];omega,by simp[fA.n],fun c bb bt=>?_,fun f a d ay=>?_,fun j d av=>?_,fun fT v ae ag=>?_,⟨fun k=>if k<v8.vs.length then ah' k else aia k,⟨fun fT ae ag=>?_,fun fT N0 ae ag aE=>?_⟩⟩⟩
   ·by_cases q:c<v8.ns.length
    ·obtain⟨x,hv,bM,aB⟩:=du.rD c (by rw[f1];exact bb) q;exact⟨x,hv,bM,aB.ext fA.ext (.inl q)⟩
    ·exact fA.rD c aa bt
   ·obtain⟨am1,t1,t2⟩:=du.agP f a d ay;rw[f1] at t1;obtain⟨u9,t3,t4⟩:=fA.bx f a d ay;refine⟨am1++u9,?_,fun e he=>?_⟩
    ·rw[Ad,aG (by simp),agT _ _ _ _ _ _ t1 (fun c _ bt=>fA.ext.ns c bt)];simp only
     rw[t3]
    ·rcases mm.1 he with q|q
     ·exact t2 e q
     ·exact t4 e q
   ·cases j with
    |zero=>
     simp at av;subst av;refine⟨aa,aa,?_⟩;rw[ff,pc];have:=du.ajt;rw[f1] at this;exact(fA.ext.dx _ (nk this)).trans this
    |succ j=>
     obtain⟨aX,aT,bd⟩:=fA.each j d (by simpa using av);exact⟨aa,aT,by rw[bd];congr 2;omega⟩
   ·by_cases q:fT<v8.vs.length
    ·exact du.J8 fT v (by rw[f3];exact ae) ((fA.ext.vs fT q).symm.trans ag)
    ·exact fA.J8 fT v aa ag
   ·by_cases q:fT<v8.vs.length
    ·rw[aP q];obtain⟨dj,ht,⟨x,jx,m3,q0⟩,p7⟩:=pS.at_ fT ae q;refine⟨dj,aa,⟨x,(fA.ext.ns _ ht).trans jx,m3,q0⟩,fun c y bb an gj g2=>?_⟩;by_cases r:c<v8.ns.length
     ·exact p7 c y bb ((fA.ext.ns c r).symm.trans an) gj g2
     ·omega
    ·rw[aG q];obtain⟨dj,ht,jx,p7⟩:=nn.at_ fT aa ag;refine⟨aa,ht,jx,fun c y bb an gj g2=>?_⟩;by_cases r:c<v8.ns.length
     ·have s0:=(fA.ext.ns c r).symm.trans an;have:=du.ir.lt y (dq s0) gj;omega
     ·exact p7 c y aa an gj g2
   ·by_cases aN:fT<v8.vs.length
    ·by_cases aH:N0<v8.vs.length
     ·rw[aP aN,aP aH];exact pS.up fT N0 ae ag aH
     ·rw[aP aN,aG aH];have ba:=(pS.at_ fT ae aN).2.1;have br:=(nn.at_ N0 aa aE).1;omega
    ·rw[aG aN,aG aa];exact nn.up fT N0 aa ag aE
  ·obtain⟨ba,br⟩:=nv q;obtain⟨bc,bl⟩:=cw q;refine⟨by rw[dv];omega,fun w hw=>?_⟩;rcases mm.1 hw with r|r
   ·exact br w r
   ·exact bl w r
abbrev tw:dn:=⟨0,0,0,[],[],[]⟩
def aih(pl:Nat)(cL:List fu)(vs:List mq)(is:List (Int×Int))(x:dn)(hv:List (List Int))(L:Nat):Prop:=
 (x.k=3/\x.p=0/\x.i=0/\x.ao=[]/\x.ws=[]/\x.im.length=pl/\∀w∈x.im,-3<=w/\w<=3)\/
  (x.k=1/\x.p=0/\x.i=0/\x.im=[]/\x.ws.length=x.ao.length/\2<=x.ao.length/\x.ao.length<=3/\(∀w∈x.ws,1<=w/\w<=3)/\∃P,cL[L]?=some P/\P.cn<0)\/
  (x.k=2/\x.im=[]/\x.ws=[]/\1<=x.ao.length/\x.ao.length<=3/\∃(P:fu) (s:List Int) (k:Nat),cL[L]?=some P/\0<=P.cn/\x.p=P.cn/\x.i=(k:Int)/\hv[P.cn.toNat]?=some s/\mw ⟨P.cn,L,s⟩ vs 0=some k/\is[k]?=some (P.cn,(x.ao.length:Int)))
def B2{α:Type}{l:List α}{x:α}{i:Nat}(h:i<l.length):(l++[x])[i]?=l[i]?:=sg h
def w2{α:Type}{l:List α}{x:α}:(l++[x])[l.length]?=some x:=by rw[rf (b2 _),pL];rfl
def aym{α:Type}{l:List α}{a c:Nat}{x:α}(h:c≠a):(l.set a x)[c]?=l[c]?:=by rw[qp,aG (fun q=>h q.symm)]
def Kz{α:Type}{l:List α}{a:Nat}{x:α}(h:a<l.length):(l.set a x)[a]?=some x:=by rw[qp,aP I,aP h]
def mem_set{α:Type}{l:List α}{a:Nat}{x y:α}(h:y∈l.set a x):y=x\/y∈l:=by
 rcases Lp h with q|q
 ·exact .inr q
 ·exact .inl q
def QT{most:Int}{pl:Nat}{cL:List fu}{L k:Nat}{seen:List (List Int)}{P:fu}{σ bL gB:ez}{x:dn}{ds:List Int}(fC:kV most L σ)(cZ:k=0\/cL[L]?=some P)(mc:seen.length=pl)(hg:∀s∈seen,s.length=L)(bi:k=0\/L<cL.length)
 (t1:bL.ns=σ.ns++[tw])(t2:bL.dx=σ.dx++[seen])
 (t3:(bL.vs=σ.vs/\bL.is=σ.is)\/∃v y,bL.vs=σ.vs++[v]/\bL.is=σ.is++[y]/\v.level=L/\x.k=2/\x.i=(σ.vs.length:Int))
 (t4:bL.cW=σ.cW -1+k)(fA:P2 most pl cL L seen P 0 k bL gB ds)(dH:x.ao=ds)(eP:x.k=2->0<=x.i/\x.i<bL.vs.length)(ra:aih pl cL gB.vs gB.is x seen L):
 DE most pl cL L seen σ {gB with ns:=gB.ns.set σ.ns.length x}:=by
 have aEI:bL.ns.length=σ.ns.length+1:=by rw[t1];simp
 have aEK:σ.vs.length<=bL.vs.length/\bL.vs.length<=σ.vs.length+1:=by
  rcases t3 with⟨h,_⟩|⟨v,y,h,_⟩
  ·rw[h];omega
  ·rw[h];simp
 have h7:=fA.ext;have cH:=h7.FX;have Cx:=h7.h1;have aI:σ.ns.length<gB.ns.length:=aa;have Jw:∀k,k<σ.vs.length->gB.vs[k]?=σ.vs[k]?:=fun k hk=>by
  rw[h7.vs k aa];rcases t3 with⟨h,_⟩|⟨v,y,h,_⟩
  ·rw[h]
  ·rw[h,B2 hk]
 have tM:∀k,k<σ.is.length->gB.is[k]?=σ.is[k]?:=fun k hk=>by
  rcases t3 with⟨_,h⟩|⟨v,y,_,h,_⟩
  ·rw[h7.is k (by rw[h];exact hk),h]
  ·rw[h7.is k (by rw[h];simp;omega),h,B2 hk]
 have aqT:σ.is.length<=gB.is.length:=by
  have:=h7.JH;rcases t3 with⟨_,h⟩|⟨v,y,_,h,_⟩
  ·rw[h] at this;exact this
  ·rw[h] at this;simp at this;omega
 have Ns:∀c,c<σ.ns.length->gB.ns[c]?=σ.ns[c]?:=fun c ax=>by rw[h7.ns c aa,t1,B2 ax]
 have apJ:∀c,c<σ.dx.length->gB.dx[c]?=σ.dx[c]?:=fun c ax=>by rw[h7.dx c (by rw[t2];simp;omega),t2,B2 ax]
 have apS:gB.ns[σ.ns.length]?=some tw:=by rw[h7.ns _ aa,t1,w2]
 have rP:∀c,c≠σ.ns.length->(gB.ns.set σ.ns.length x)[c]?=gB.ns[c]?:=fun c ax=>aym ax;have gW:Ext 0 gB {gB with ns:=gB.ns.set σ.ns.length x}:=⟨fun c ax=>by omega,fun _ _=>rfl,fun _ _=>rfl,fun _ _=>rfl,by simp,b2 _,b2 _,b2 _⟩;have Co:∀y∈gB.ns,y.k=2->y∈gB.ns.set σ.ns.length x:=fun y an hk=>by
  obtain⟨c,ax⟩:=nK.1 an;have:c≠σ.ns.length:=fun q=>by
   rw[q,apS] at ax;injection ax with ax;subst ax;cases hk
  exact dq ((rP c this).trans ax)
 have asz:x∈gB.ns.set σ.ns.length x:=dq (Kz aI);refine⟨⟨fun c ax=>by rw[rP c aa];exact Ns c ax,apJ,Jw,tM,by simp;omega,by have:=h7.dg;rw[t2] at this;simp at this;show σ.dx.length<=gB.dx.length;omega,by show _<=gB.vs.length;omega,aqT⟩,?_,by show gB.cW=_;rw[fA.cW,t4];omega,by simp;omega,?_,fun c bb bt=>?_,fun f p d ay=>?_,fun k v ae ag=>?_,?_⟩
 ·have c4:=fA.ir;refine⟨by simp;exact c4.dx,c4.is,fun y an hk=>?_,fun k v az=>?_,c4.ok,by simp;exact c4.sum,by simp;exact c4.xX⟩
  ·rcases mem_set an with q|q
   ·subst q;have:=eP hk;show 0<=y.i/\y.i<(gB.vs.length:Int);omega
   ·exact c4.lt y q hk
  ·have az:gB.vs[k]?=some v:=az;rcases c4.use k v az with q|⟨y,gj,g2,iB⟩
   ·by_cases r:k<σ.vs.length
    ·rcases fC.use k v ((Jw k r).symm.trans az) with dc|⟨y,gj,g2,iB⟩
     ·exact .inl dc
     ·obtain⟨c,ax⟩:=nK.1 gj;have l8:=nk ax;exact .inr ⟨y,dq ((rP c aa).trans ((Ns c l8).trans ax)),g2,iB⟩
    ·by_cases c9:k<bL.vs.length
     ·rcases t3 with⟨h,_⟩|⟨w,y,h,_,aE,a6,dK⟩
      ·rw[h] at c9;exact absurd c9 r
      ·exact .inr ⟨x,asz,a6,by rw[dK];congr 1;rw[h] at c9;simp at c9;omega⟩
     ·have:=fA.J8 k v aa az;omega
   ·exact .inr ⟨y,Co y gj g2,g2,iB⟩
 ·show gB.dx[σ.ns.length]?=some seen;rw[h7.dx _ (by rw[t2,dv,fC.dx];simp),t2,<-fC.dx,w2]
 ·by_cases q:c=σ.ns.length
  ·subst q;refine⟨x,seen,L,Kz aI,?_,mc,hg,fun i d av=>?_,ra⟩
   ·show gB.dx[σ.ns.length]?=some seen;rw[h7.dx _ (by rw[t2,dv,fC.dx];simp),t2,<-fC.dx,w2]
   ·rw[dH] at av;obtain⟨aX,aT,bd⟩:=fA.each i d av;have hi:=nk av;rw[fA.n] at hi;refine⟨aa,by simp;exact aT,P,?_,by rw[j8] at bd;exact bd⟩;rcases cZ with cZ|cZ
    ·omega
    ·exact cZ
  ·obtain⟨y,hv,bM,aB⟩:=fA.rD c aa (by simpa using bt);exact⟨y,hv,bM,aB.ext gW (.inr (rP c q))⟩
 ·obtain⟨g,rfl⟩:∃g,f=g+1:=⟨f -1,aa⟩;have pp:∃es,hc (gq gB.ns g σ.ns.length (d+1)) ds bL.ns.length=some (gB.ns.length,es)/\∀e∈es,e.2.1<=d+((cL.length -L:Nat):Int):=by
   rcases bi with bi|bi
   ·have:ds=[]:=zV.1 (by rw[fA.n,bi]);subst this;obtain⟨aC3,ae,ag⟩:=fA.bx (cL.length+1) 0 0 aa;simp only[hc,cb,c8] at ae;exact⟨[],by rw[<-ae.1];rfl,fun e he=>by cases he⟩
   ·obtain⟨es,ae,ag⟩:=fA.bx g (σ.ns.length:Int) (d+1) aa;exact⟨es,ae,fun e he=>by have:=ag e he;omega⟩
  obtain⟨es,ae,ag⟩:=pp;refine⟨(p,d,(gB.ns.length:Int) -1)::es,?_,fun e he=>?_⟩
  ·show gq (gB.ns.set σ.ns.length x) (g+1) p d σ.ns.length=some ((gB.ns.set σ.ns.length x).length,_);unfold gq;rw[Kz aI];simp only
   rw[dH,show σ.ns.length+1=bL.ns.length by omega,akO ae aa (fun c bb bt=>rP c aa)];simp
  ·rcases fs.1 he with q|q
   ·subst q;show d<=_;omega
   ·exact ag e q
 ·have ag:gB.vs[k]?=some v:=ag;by_cases c9:k<bL.vs.length
  ·rcases t3 with⟨h,_⟩|⟨w,y,h,_,aE,a6,dK⟩
   ·rw[h] at c9;omega
   ·rw[h7.vs k c9,h] at ag;have:k=σ.vs.length:=by rw[h] at c9;simp at c9;omega
    subst this;rw[w2] at ag;injection ag with ag;subst ag;omega
  ·have:=fA.J8 k v aa ag;omega
 ·obtain⟨F,bC⟩:=fA.fst;refine⟨fun k=>if k<bL.vs.length then σ.ns.length else F k,⟨fun k ae ag=>?_,fun k fT ae ag aE=>?_⟩⟩
  ·have ag:k<gB.vs.length:=ag;by_cases q:k<bL.vs.length
   ·rw[aP q];rcases t3 with⟨h,_⟩|⟨w,y,h,_,aE,a6,dK⟩
    ·rw[h] at q;omega
    ·have:k=σ.vs.length:=by rw[h] at q;simp at q;omega
     subst this;exact⟨b2 _,by simp;omega,⟨x,Kz aI,a6,dK⟩,fun c z bb _ _ _=>bb⟩
   ·rw[aG q];obtain⟨dj,ht,⟨z,jx,m3,q0⟩,p7⟩:=bC.at_ k aa ag;refine⟨aa,by simp;exact ht,⟨z,(rP _ aa).trans jx,m3,q0⟩,fun c y bb an gj g2=>?_⟩;by_cases r:c=σ.ns.length
    ·subst r;have an:(gB.ns.set σ.ns.length x)[σ.ns.length]?=some y:=an;rw[Kz aI] at an;injection an with an;subst an
     have:=eP gj;omega
    ·exact p7 c y aa ((rP c r).symm.trans an) gj g2
  ·have aE:fT<gB.vs.length:=aE;by_cases aN:k<bL.vs.length
   ·by_cases aH:fT<bL.vs.length
    ·omega
    ·rw[aP aN,aG aH];have:=(bC.at_ fT aa aE).1;omega
   ·rw[aG aN,aG aa];exact bC.up k fT aa ag aE
def atf{most:Int}{pl:Nat}{cL:List fu}{L:Nat}{seen:List (List Int)}{P:fu}{bL:ez}(c4:kV most (L+1) bL):P2 most pl cL L seen P 0 0 bL bL []:=by
 refine⟨Ext.refl _ _,c4,by simp,I,fun c bb bt=>by omega,fun f a d ay=>⟨[],I,fun e he=>by cases he⟩,fun j d av=>by simp at av,fun k v ae ag=>?_,⟨fun _=>0,⟨fun k ae ag=>by omega,fun k fT ae ag aE=>by omega⟩⟩⟩;have:=nk ag;omega
def Dg{most:Int}{L:Nat}{σ bL:ez}{seen:List (List Int)}(fC:kV most L σ)(t1:bL.ns=σ.ns++[tw])(t2:bL.dx=σ.dx++[seen])
 (t3:(bL.vs=σ.vs/\bL.is=σ.is)\/∃v y,bL.vs=σ.vs++[v]/\bL.is=σ.is++[y]/\v.level=L/\y.1=v.cn/\1<=y.2/\y.2<=3)(t4:(σ.ns.length:Int)+1+bL.cW<=most):kV most (L+1) bL:=by
 refine⟨by rw[t1,t2,dv,dv,fC.dx];rfl,?_,fun x U hk=>?_,fun k v az=>?_,fun k v y az an=>?_,by rw[t1];simp;omega,?_⟩
 ·rcases t3 with⟨ae,ag⟩|⟨v,y,ae,ag,_⟩
  ·rw[ae,ag];exact fC.is
  ·rw[ae,ag,dv,dv,fC.is];rfl
 ·rw[t1] at U;rcases mm.1 U with q|q
  ·have:=fC.lt x q hk;rcases t3 with⟨ae,ag⟩|⟨v,y,ae,ag,_⟩
   ·rw[ae];exact this
   ·rw[ae];simp;omega
  ·simp at q;subst q;cases hk
 ·by_cases r:k<σ.vs.length
  ·have vz:σ.vs[k]?=some v:=by
    rcases t3 with⟨ae,ag⟩|⟨w,y,ae,ag,_⟩
    ·rw[ae] at az;exact az
    ·rw[ae,B2 r] at az;exact az
   rcases fC.use k v vz with q|⟨x,dH,eP,ra⟩
   ·exact .inl aa
   ·exact .inr ⟨x,by rw[t1];exact tq _ dH,eP,ra⟩
  ·have hk:=nk az;rcases t3 with⟨ae,ag⟩|⟨w,y,ae,ag,aE,_⟩
   ·rw[ae] at hk;exact absurd hk r
   ·have:k=σ.vs.length:=by rw[ae] at hk;simp at hk;omega
    subst this;rw[ae,w2] at az;injection az with az;subst az
    exact .inl aa
 ·by_cases r:k<σ.vs.length
  ·have cu:k<σ.is.length:=by rw[fC.is];exact r
   rcases t3 with⟨ae,ag⟩|⟨w,z,ae,ag,_⟩
   ·rw[ae] at az;rw[ag] at an;exact fC.ok k v y az an
   ·rw[ae,B2 r] at az;rw[ag,B2 cu] at an;exact fC.ok k v y az an
  ·have hk:=nk az;rcases t3 with⟨ae,ag⟩|⟨w,z,ae,ag,aE,a6,dK,ga⟩
   ·rw[ae] at hk;exact absurd hk r
   ·have:k=σ.vs.length:=by rw[ae] at hk;simp at hk;omega
    subst this;rw[ae,w2] at az;injection az with az;subst az
    rw[ag,<-fC.is,w2] at an;injection an with an;subst an
    exact⟨a6,dK,ga⟩
 ·have:=fC.xX;rcases t3 with⟨ae,ag⟩|⟨v,y,ae,ag,_⟩
  ·rw[ae,t1];simp;omega
  ·rw[ae,t1];simp;exact this
def L5{most:Int}{pl:Nat}{cL:List fu}{L:Nat}{seen:List (List Int)}{σ bL:ez}(fC:kV most L σ)(mc:seen.length=pl)(hg:∀s∈seen,s.length=L)
 (t1:bL.ns=σ.ns++[tw])(t2:bL.dx=σ.dx++[seen])(t3:bL.vs=σ.vs)(xU:bL.is=σ.is)(t4:bL.cW=σ.cW -1):DE most pl cL L seen σ (yw pl σ.ns.length bL):=by
 have c4:kV most (L+1) {bL with l:=(pB pl bL.l).2}:=Dg fC t1 t2 (.inl ⟨t3,xU⟩) (by have:=fC.sum;show _+bL.cW<=_;omega);obtain⟨dj,ht⟩:=awo pl bL.l;exact QT (P:=⟨0,0,0⟩) (k:=0) (bL:={bL with l:=(pB pl bL.l).2}) (gB:={bL with l:=(pB pl bL.l).2}) (x:=⟨3,0,0,[],[],(pB pl bL.l).1⟩) (ds:=[]) fC (.inl I) mc hg (.inl I) t1 t2 (.inl ⟨t3,xU⟩) (by show bL.cW=_;rw[t4];simp) (atf c4) I (fun q=>by cases q) (.inl ⟨I,I,I,I,I,dj,ht⟩)
def RI{α:Type}{l r:List α}{L:Nat}{p:α}(h:l.drop L=p::r):L<l.length/\l[L]?=some p/\l.drop (L+1)=r:=by
 have aj:L<l.length:=by
  rcases ha L l.length with q|q
  ·exact q
  ·rw[wk q] at h;cases h
 rw[tn aj] at h;injection h with ae ag
 exact⟨aj,by rw[cU aj,ae],ag⟩
def afY{p:fu}{seen:List (List Int)}{pl:Nat}(h:seen.length=pl)(aQ:0<=p.cn)(ae:p.cn<pl):seen[p.cn.toNat]?=some (fN p seen):=by
 have aj:p.cn.toNat<seen.length:=aa;unfold fN;rw[cU aj];rfl
def ag0{k:Int}{ns:List dn}:xV k ns=true↔∃x∈ns,x.k=2/\x.i=k:=by
 unfold xV;rw[P3];simp
def amL{most:Int}{L:Nat}{σ fV:ez}{p:fu}{s:List Int}(fC:kV most L σ)(ap:0<=p.cn)(t1:fV.ns=σ.ns++[tw])(t3:fV.vs=σ.vs)(xU:fV.is=σ.is):
 (kW (eV p L s fV).2 p.cn (eV p L s fV).1).vs=σ.vs/\(kW (eV p L s fV).2 p.cn (eV p L s fV).1).is=σ.is/\(kW (eV p L s fV).2 p.cn (eV p L s fV).1).ns=fV.ns/\(kW (eV p L s fV).2 p.cn (eV p L s fV).1).dx=fV.dx/\(kW (eV p L s fV).2 p.cn (eV p L s fV).1).cW=fV.cW:=by
 unfold eV;cases ay:mw ⟨p.cn,L,s⟩ fV.vs 0 with
 |some k=>
  simp only
  obtain⟨_,ag⟩:=MC ay;rw[Hd,t3] at ag;have hu:xV (k:Int) fV.ns=true:=by
   rw[ag0];rcases fC.use k _ ag with q|⟨x,dH,eP,ra⟩
   ·simp at q
   ·exact⟨x,by rw[t1];exact tq _ dH,eP,ra⟩
  unfold kW;rw[hu];split
  ·exact⟨t3,xU,I,I,I⟩
  ·rw[aP I];exact⟨t3,xU,I,I,I⟩
 |none=>
  simp only
  have hu:xV (fV.vs.length:Int) fV.ns=false:=by
   cases h:xV (fV.vs.length:Int) fV.ns with
   |false=>rfl
   |true=>
    rw[ag0] at h;obtain⟨x,dH,eP,ra⟩:=h;rw[t1] at dH;rcases mm.1 dH with q|q
    ·have:=fC.lt x q eP;rw[t3] at ra;omega
    ·simp at q;subst q;cases eP
  unfold kW;simp only
  rw[aG (by
   intro q;rcases q with q|q
   ·omega
   ·apply q
    rw[dv,xU,fC.is,t3];simp),hu,aG (by simp)]
  refine⟨?_,?_,I,I,I⟩
  ·simp;exact t3
  ·simp only
   rw[xU,ff,t3,<-fC.is,List.take_left'];rfl
def YV{most:Int}{pl:Nat}{cL:List fu}(n':FM pl cL):∀(lv:List fu) (L:Nat) (seen:List (List Int)) (σ:ez),cL.drop L=lv->L<=cL.length->kV most L σ->1<=σ.cW->seen.length=pl->(∀s∈seen,s.length=L)->DE most pl cL L seen σ (oI most pl lv L seen σ):=by
 intro lv;induction lv with
 |nil=>
  intro L seen σ _ _ fC ap mc hg;unfold oI;exact L5 fC mc hg I I I I I
 |cons p lv aC=>
  intro L seen σ av bi fC ap mc hg;obtain⟨pT,cZ,vq⟩:=RI av;have Fj:=n' p (dq cZ);have Fk:∀hv σ,kV most (L+1) σ->1<=σ.cW->hv.length=pl->(∀s∈hv,s.length=L+1)->DE most pl cL (L+1) hv σ (oI most pl lv (L+1) hv σ):=fun hv σ a b c d=>aC (L+1) hv σ vq pT a b c d;unfold oI;simp only
  split
  ·exact L5 fC mc hg I I I I I
  ·split
   ·rename_i ax;split
    ·exact L5 fC mc hg I I I I I
    ·rename_i hm;generalize qT:({l:=hj (mg seen σ).l 8,cW:=(mg seen σ).cW+p.many,ns:=(mg seen σ).ns,is:=(mg seen σ).is,vs:=(mg seen σ).vs,dx:=(mg seen σ).dx}:ez)=bL;have t1:bL.ns=σ.ns++[tw]:=by rw[<-qT];rfl
     have t2:bL.dx=σ.dx++[seen]:=by rw[<-qT];rfl
     have t3:bL.vs=σ.vs:=by rw[<-qT];rfl
     have xU:bL.is=σ.is:=by rw[<-qT];rfl
     have t4:bL.cW=σ.cW -1+p.many:=by rw[<-qT];rfl
     have hm:(σ.ns.length:Int)+1+(σ.cW -1)+p.many<=most:=by
      have:¬most<(σ.ns.length:Int)+1+(σ.cW -1)+p.many:=hm;omega
     have c4:kV most (L+1) bL:=Dg fC t1 t2 (.inl ⟨t3,xU⟩) (by rw[t4];omega);obtain⟨ds,wn,ca,fA,cw,_⟩:=ac5 (P:=p) mc hg Fk p.many.toNat 0 bL [] [] c4 (by rw[t4];omega);rw[ca];simp only[nL];obtain⟨bE,ct⟩:=cw ax;have aA:=fA.n;refine QT (P:=p) (k:=p.many.toNat) (bL:=bL) (ds:=ds) (x:=⟨1,0,0,ds,wn,[]⟩) fC (.inr cZ) mc hg (.inr pT) t1 t2 (.inl ⟨t3,xU⟩) (by rw[t4];omega) fA I (fun q=>by cases q) (.inr (.inl ⟨I,I,I,I,by show wn.length=ds.length;omega,by show 2<=ds.length;omega,by show ds.length<=3;omega,ct,p,cZ,ax⟩))
   ·rename_i ax;have mA:0<=p.cn:=aa;generalize JG:({l:=hj (mg seen σ).l 8,cW:=(mg seen σ).cW,ns:=(mg seen σ).ns,is:=(mg seen σ).is,vs:=(mg seen σ).vs,dx:=(mg seen σ).dx}:ez)=fV;have fK:fV.ns=σ.ns++[tw]:=by rw[<-JG];rfl
    have iO:fV.dx=σ.dx++[seen]:=by rw[<-JG];rfl
    have mj:fV.vs=σ.vs:=by rw[<-JG];rfl
    have KL:fV.is=σ.is:=by rw[<-JG];rfl
    have zF:fV.cW=σ.cW -1:=by rw[<-JG];rfl
    split
    ·obtain⟨d1,d2,d3,d4,d5⟩:=amL (s:=fN p seen) fC mA fK mj KL;exact L5 fC mc hg (d3.trans fK) (d4.trans iO) d1 d2 (d5.trans zF)
    ·rename_i hm
     --vY set
     obtain⟨v1,v2,nH,v4,Bi,v6⟩:(eV p L (fN p seen) fV).1.ns=σ.ns++[tw]/\(eV p L (fN p seen) fV).1.dx=σ.dx++[seen]/\(eV p L (fN p seen) fV).1.cW=σ.cW -1/\
      (((eV p L (fN p seen) fV).1.vs=σ.vs/\(eV p L (fN p seen) fV).1.is=σ.is)\/∃v y,(eV p L (fN p seen) fV).1.vs=σ.vs++[v]/\(eV p L (fN p seen) fV).1.is=σ.is++[y]/\v.level=L/\y.1=v.cn/\1<=y.2/\y.2<=3/\(eV p L (fN p seen) fV).2=σ.vs.length)/\
      mw ⟨p.cn,L,fN p seen⟩ (eV p L (fN p seen) fV).1.vs 0=some (eV p L (fN p seen) fV).2/\
      (eV p L (fN p seen) fV).1.is[(eV p L (fN p seen) fV).2]?=some (p.cn,tt (eV p L (fN p seen) fV).2 (eV p L (fN p seen) fV).1):=by
      unfold eV;cases ay:mw ⟨p.cn,L,fN p seen⟩ fV.vs 0 with
      |some k=>
       simp only
       obtain⟨_,ag⟩:=MC ay;rw[Hd] at ag;have hk:k<σ.is.length:=by rw[fC.is,<-mj];exact nk ag
       have an:=cU hk;have cG:=fC.ok k _ _ (by rw[<-mj];exact ag) an;refine⟨fK,iO,zF,.inl ⟨mj,KL⟩,ay,?_⟩;unfold tt;rw[KL,an];simp only
       rw[show p.cn=σ.is[k].1 from cG.1.symm]
      |none=>
       simp only
       have ar:=qX (l:=fV.l) (n:=3) aa;refine⟨fK,iO,zF,.inr ⟨_,_,by rw[mj],by rw[KL],I,I,by show 1<=1+fm fV.l 3;omega,by show 1+fm fV.l 3<=3;omega,by rw[mj]⟩,by rw[anH ay,j8],?_⟩;unfold tt;simp only
       rw[KL,mj,<-fC.is,w2]
     generalize eV p L (fN p seen) fV=f at*;generalize rL:tt f.2 f.1=m2 at*;generalize qT:({l:=f.1.l,cW:=f.1.cW+m2,ns:=f.1.ns,is:=f.1.is,vs:=f.1.vs,dx:=f.1.dx}:ez)=bL;have t1:bL.ns=σ.ns++[tw]:=by rw[<-qT];exact v1
     have t2:bL.dx=σ.dx++[seen]:=by rw[<-qT];exact v2
     have t4:bL.cW=σ.cW -1+m2:=by rw[<-qT];show f.1.cW+m2=_;rw[nH]
     have Dk:bL.vs=f.1.vs:=by rw[<-qT]
     have Dh:bL.is=f.1.is:=by rw[<-qT]
     have hm:(σ.ns.length:Int)+1+(σ.cW -1)+m2<=most:=by
      rw[nH] at hm;omega
     have c4:kV most (L+1) bL:=Dg fC t1 t2 (by
      rcases v4 with⟨a,b⟩|⟨v,y,ba,br,bG,cD,cN,ef,_⟩
      ·exact .inl ⟨Dk.trans a,Dh.trans b⟩
      ·exact .inr ⟨v,y,Dk.trans ba,Dh.trans br,bG,cD,cN,ef⟩) (by rw[t4];omega)
     have WR:=(MC Bi).2;rw[Hd] at WR;have tP:=c4.ok f.2 _ _ (by rw[Dk];exact WR) (by rw[Dh];exact v6);simp only at tP;obtain⟨ds,wn,ca,fA,_,f'⟩:=ac5 (P:=p) mc hg Fk m2.toNat 0 bL [] [] c4 (by rw[t4];omega);rw[ca];simp only[nL];rw[f' mA];have aA:=fA.n;have jd:f.2<bL.vs.length:=by rw[Dk];exact nk WR
     refine QT (P:=p) (k:=m2.toNat) (bL:=bL) (ds:=ds) (x:=⟨2,p.cn,f.2,ds,[],[]⟩) fC (.inr cZ) mc hg (.inr pT) t1 t2 ?_ (by rw[t4];omega) fA I (fun _=>⟨by show(0:Int)<=(f.2:Int);omega,by show(f.2:Int)<_;omega⟩) (.inr (.inr ⟨I,I,I,by show 1<=ds.length;omega,by show ds.length<=3;omega,p,fN p seen,f.2,cZ,mA,I,I,afY mc mA aa,?_,?_⟩))
     ·rcases v4 with⟨a,b⟩|⟨v,y,ba,br,bG,cD,cN,ef,fh⟩
      ·exact .inl ⟨Dk.trans a,Dh.trans b⟩
      ·exact .inr ⟨v,y,Dk.trans ba,Dh.trans br,bG,I,by show(f.2:Int)=_;rw[fh]⟩
     ·exact aai fA.ext.vs (by rw[Dk];exact Bi)
     ·rw[fA.ext.is _ (by rw[Dh];exact nk v6),Dh,v6];show some (p.cn,m2)=some (p.cn,(ds.length:Int));congr 2;omega
open Go.Cre Go.RowKit Go.Proofs
def mo.VX{J:ai}{a:Nat}{cells:List Value}(h:mo [] J a cells):∃e,J a=some (cells,e):=by
 cases h with
 |own h=>cases h
 |eG h=>exact⟨_,h⟩
 |opn h=>cases h
def Z2{x n:Int}(aA:1<=n):x % n=if x.tmod n<0 then x.tmod n+n else x.tmod n:=by
 have h:=Int.tmod_eq_emod (a:=x) (b:=n);have ae:=GN x (show n≠0 by omega);have ag:=GM x (show 0<n by omega);by_cases q:0<=x\/n ∣ x
 ·rw[aP q] at h
  rw[aG aa];omega
 ·rw[aG q] at h
  rw[aP aa];omega
def mR(l:List Int)(a:Nat)(n:Int):Nat:=if a<l.length/\1<=n then a+1 else a
def z9{l:List Int}{a:Nat}{n:Int}:l.drop (mR l a n)=hj (l.drop a) n:=by
 unfold mR;by_cases h:a<l.length
 ·rw[tn h]
  show _=if n<1 then _ else _;by_cases q:1<=n
  ·rw[aP ⟨h,q⟩,aG aa]
  ·rw[aG (fun k=>q k.2),aP aa,<-tn h]
 ·rw[aG (fun k=>h k.1),wk aa];rfl
def wK{l:List Int}{a:Nat}{n:Int}(h:a<=l.length):mR l a n<=l.length:=by
 unfold mR;split
 ·rename_i q;omega
 ·exact h
section
variable {Q:da Tryz.prog}{g0:Nat}{J:ai}
def J0{x n:Int}(aA:1<=n)(hm:n<=4611686018427387904):Fn (aU Q g0) 5 [.int .i64 x,.int .i64 n] [] J (fun u m' ah=>u=.int .i64 (x % n)/\m'=[]/\J=ah):=by
 have cI:=Int.tmod_lt_of_pos x (show 0<n by omega);have jJ:=Int.lt_tmod_of_pos x (show 0<n by omega);refine Fn.b9 (b1 Tryz.func5) I I fun H=>?_;refine af 0x2f82073813c21ce059 ?_;refine If (fun eZ=>?_) fun eZ=>?_
 ·refine af 0xd5f020e70218439 ?_;refine mP ?_;refine⟨?_,I,I⟩;rw[Z2 aA]
  rw[aP eZ];rfl
 ·refine af 0xd5f020e757 ?_;refine mP ?_;refine⟨?_,I,I⟩;rw[Z2 aA]
  rw[aG eZ];rfl
abbrev hq(ad:Nat)(cV:Option Addr)(cl:Nat)(l:List Int)(a:Nat):Nat×df:=(ad,.row [.slice cV l.length cl,.int .i64 (a:Int)] 31)
def CN{ad:Nat}{cV:Option Addr}{cl:Nat}{l:List Int}{a:Nat}{n:Int}(aj:gl J (.slice cV l.length cl) l)(gY:l.length<=9223372036854775807)(aI:a<=l.length)(hm:n<=4611686018427387904):
 Fn (aU Q g0) 8 [.pointer (some ⟨ad,0,none⟩),.int .i64 n] [hq ad cV cl l a] J (fun u m' ah=>u=.int .i64 (fm (l.drop a) n)/\m'=[hq ad cV cl l (mR l a n)]/\J=ah):=by
 have aff:addrEq cV cV=true:=by obtain⟨e,h⟩:=aj;exact h.addr
 have Ua:=aj.r5 [];refine Fn.b9 (b1 Tryz.func8) I I fun H=>?_;refine af 0x6059 ?_;refine fc [0,1] ?_;refine bp ?_;refine' aK.hp 0 [(18,.bool (decide ((l.length<=a\/n<1))))] ?lF ?lG;case lF=>
  refine aK.H3 [] I (by kernel_rfl) (a0:=[.val 0,.val 1,.val 2,.val 3,.val 4,.val 5,.val 6,.val 7,.val 8,.val 9,.val 10,.val 11,.val 12,.val 13]) (by kernel_rfl) ?_;refine af 0x485536c1536c1 ?_;refine z2 15 (fun Ir=>?_) fun Ir=>?_
  ·refine af 0xc237b ?_;exact ce
  ·refine af 0xc2081 ?_;exact ce
 case lG=>
  refine bp ?_;refine If (fun jt=>?_) fun jt=>?_
  ·refine af 0x1abe059 ?_;refine iw ?_
   refine⟨?_,?_,I⟩
   ·rcases jt with q|q
    ·rw[wk q];rfl
    ·cases b3:l.drop a with
     |nil=>rfl
     |cons y r=>show _=Value.int .i64 (if n<1 then 0 else y % n);rw[aP q];rfl
   ·unfold mR;rw[aG aa]
  ·obtain⟨dg,ol,Rg,rfl,arO,Tt⟩:=Ua aa;obtain⟨el,ao9⟩:=arO.VX;obtain⟨x,U,hZ⟩:=Tt a aa aa;rw[ff] at U;have aqi:l.drop a=x::l.drop (a+1):=by
    have cI:=(dO.1 U).1;rw[tn cI];rw[cU cI] at U;injection U with U;rw[U]
   have hZ:nth Rg (ol+a*1)=some (.int .i64 x):=hZ;refine af 0x17c71b61a9b60e757 ?_;refine aK.draw I (by kernel_rfl) (a0:=[.val 0,.val 1,.val 2,.val 3,.val 4,.val 5,.val 6,.val 7,.val 8,.val 9,.val 10,.val 11,.bw 12,.val 13]) (by kernel_rfl) ?_;refine af 0x3536c1536c1 ?_;rw[show((a:Int)+1 -1)=(a:Int) by omega];refine af 0x546 ?_;refine dl I (G:=J0 aa hm) (h:=?_);rintro v m' ah hle ⟨rfl,rfl,rfl⟩;refine af 0xd5f02 ?_;refine iw ?_
   refine⟨?_,?_,I⟩
   ·rw[aqi];show _=Value.int .i64 (if n<1 then 0 else x % n);rw[aG aa];rfl
   ·show[_]=[_];unfold mR;rw[aP ⟨aa,aa⟩];rfl
def Fn.OT{K:dW}{J:ai}{f:FuncId}{fn:Func}{args:List Value}{v:Value}(ay:K.fR.get f=some fn)(ak:fn.body=none)(ap:args.all plain=true)(he:fw K.P (callFunc f args.toArray)=some (.value v))(az:plain v=true):Fn K f args [] J (fun u m' ah=>u=v/\m'=[]/\J=ah):=by
 intro H aD;refine⟨v,H,J,[],j5.b9 K.cZ g7 lP (bg:=.run) ?_,aD,I,I,I⟩;unfold tA;rw[ay];show Hu K.P _ f fn args false .run H fn.body=_;rw[ak];show rq .run (BT K.P fn f args H)=_;unfold BT;rw[ap,he];simp only[cd,RY,az];rfl
def ajg(x y:Nat):fw jD (callFunc 117 #[.int .u64 (x:Int),.int .u64 (y:Int),.int .u64 0])=some (.value (.tuple #[.int .u64 (((x+y+0) % 2 ^ 64:Nat):Int),.int .u64 (((x+y+0) / 2 ^ 64:Nat):Int)])):=by kernel_rfl
def aze(x y:Nat):fw jD (callFunc 148 #[.int .u64 (x:Int),.int .u64 (y:Int),.int .u64 0])=some (.value (.tuple #[.int .u64 (((x+2 ^ 64 -y -0) % 2 ^ 64:Nat):Int),.int .u64 ((if x<y+0 then 1 else 0:Nat):Int)])):=by kernel_rfl
def ajh(x y:Nat):fw jD (callFunc 117 #[.int .u64 (x:Int),.int .u64 (y:Int),.int .u64 1])=some (.value (.tuple #[.int .u64 (((x+y+1) % 2 ^ 64:Nat):Int),.int .u64 (((x+y+1) / 2 ^ 64:Nat):Int)])):=by kernel_rfl
def azf(x y:Nat):fw jD (callFunc 148 #[.int .u64 (x:Int),.int .u64 (y:Int),.int .u64 1])=some (.value (.tuple #[.int .u64 (((x+2 ^ 64 -y -1) % 2 ^ 64:Nat):Int),.int .u64 ((if x<y+1 then 1 else 0:Nat):Int)])):=by kernel_rfl
def LN{x y c:Nat}(ax:c<=1):Fn (aU Q g0) 117 [.int .u64 (x:Int),.int .u64 (y:Int),.int .u64 (c:Int)] [] J (fun u m' ah=>u=.tuple #[.int .u64 (((x+y+c) % 18446744073709551616:Nat):Int),.int .u64 (((x+y+c) / 18446744073709551616:Nat):Int)]/\m'=[]/\J=ah):=by
 obtain rfl|rfl:c=0\/c=1:=aa
 ·exact Fn.OT (b1 Tryz.func117) I I (ajg x y) I
 ·exact Fn.OT (b1 Tryz.func117) I I (ajh x y) I
def azd{x y c:Nat}(ax:c<=1):Fn (aU Q g0) 148 [.int .u64 (x:Int),.int .u64 (y:Int),.int .u64 (c:Int)] [] J (fun u m' ah=>u=.tuple #[.int .u64 (((x+18446744073709551616 -y -c) % 18446744073709551616:Nat):Int),.int .u64 ((if x<y+c then 1 else 0:Nat):Int)]/\m'=[]/\J=ah):=by
 obtain rfl|rfl:c=0\/c=1:=aa
 ·exact Fn.OT (b1 Tryz.func148) I I (aze x y) I
 ·exact Fn.OT (b1 Tryz.func148) I I (azf x y) I
def V7{eJ V g:Nat}(ae:g*V<=eJ)(ag:eJ<(g+1)*V):eJ / V=g/\eJ % V=eJ -g*V:=by
 have iH:0<V:=Hb fun h=>by rw[h,sj] at ag;omega
 have e:eJ / V=g:=by
  refine Nat.le_antisymm ?_ ?_
  ·exact Nat.lt_succ_iff.1 ((wo iH).2 ag)
  ·exact(Lw iH).2 ae
 refine⟨e,?_⟩
 have:=uO eJ V
 rw[e,hn] at this
 omega
def Hn{x:Nat}(h:x<18446744073709551616):IntKind.u64.wrap (BitVec.ofInt IntKind.u64.bits (x:Int) &&& BitVec.ofInt IntKind.u64.bits 4294967295).toNat=((x % 4294967296:Nat):Int):=by
 have e:(BitVec.ofInt 64 (x:Int) &&& BitVec.ofInt 64 4294967295).toNat=x % 4294967296:=by
  rw[BitVec.toNat_and];have ae:(BitVec.ofInt 64 (x:Int)).toNat=x:=by
   rw[BitVec.toNat_ofInt];omega
  have ag:(BitVec.ofInt 64 4294967295).toNat=2 ^ 32 -1:=by decide
  rw[ae,ag,Nat.and_two_pow_sub_one_eq_mod]
 show IntKind.u64.wrap ((BitVec.ofInt 64 (x:Int) &&& BitVec.ofInt 64 4294967295).toNat:Int)=_;rw[e];exact wrap_u64 aa aa
def A'{x:Nat}:(x:Int).fdiv (2 ^ ((32:Int).toNat))=((x / 4294967296:Nat):Int):=Gl (q:=32)
def j'(x y:Nat):Int:=if x<y then -1 else if y<x then 1 else 0
def W'{x:Nat}(h:x<18446744073709551616):IntKind.u64.wrap (x:Int)=(x:Int):=wrap_u64 (sc _) aa
def CL{x y P:Nat}(h:P=x*y):(x:Int)*(y:Int)=(P:Int):=by rw[h];exact(iX x y).symm
def W9(x:Nat):IntKind.u64.wrap (x:Int)=((x % 18446744073709551616:Nat):Int):=by
 unfold IntKind.wrap IntKind.signed IntKind.bits;simp only[GJ,zN,y8];omega
def auC{x y hT dH o7 gj a b c d:Nat}(U:x=dH*4294967296+hT)(an:y=gj*4294967296+o7)(aI:a=hT*o7)(ak:b=dH*o7)(ax:c=hT*gj)(av:d=dH*gj):x*y=d*18446744073709551616+(b+c)*4294967296+a:=by
 subst U;subst an;subst aI;subst ak;subst ax;subst av;rw[g',hV,hV,g'];have aF:dH*4294967296*(gj*4294967296)=dH*gj*18446744073709551616:=by
  rw[show(18446744073709551616:Nat)=4294967296*4294967296 from I];ac_rfl
 have aV:dH*4294967296*o7=dH*o7*4294967296:=by ac_rfl
 have cj:hT*(gj*4294967296)=hT*gj*4294967296:=by ac_rfl
 omega
def FK{a b:Nat}(aI:a<4294967296)(ak:b<4294967296):a*b<=18446744065119617025:=zY (Nat.le_of_lt_succ (show a<4294967295+1 by omega)) (Nat.le_of_lt_succ (show b<4294967295+1 by omega))
def ad0{x y:Nat}(U:x<18446744073709551616)(an:y<18446744073709551616):Fn (aU Q g0) 116 [.int .u64 (x:Int),.int .u64 (y:Int)] [] J (fun u m' ah=>u=.tuple #[.int .u64 ((x*y / 18446744073709551616:Nat):Int),.int .u64 ((x*y % 18446744073709551616:Nat):Int)]/\m'=[]/\J=ah):=by
 obtain⟨hT,fl⟩:∃k,k=x % 4294967296:=⟨_,I⟩;obtain⟨dH,iS⟩:∃k,k=x / 4294967296:=⟨_,I⟩;obtain⟨o7,hF⟩:∃k,k=y % 4294967296:=⟨_,I⟩;obtain⟨gj,UG⟩:∃k,k=y / 4294967296:=⟨_,I⟩;obtain⟨a,aI⟩:∃k,k=hT*o7:=⟨_,I⟩;obtain⟨b,ak⟩:∃k,k=dH*o7:=⟨_,I⟩;obtain⟨c,ax⟩:∃k,k=hT*gj:=⟨_,I⟩;obtain⟨d,av⟩:∃k,k=dH*gj:=⟨_,I⟩;obtain⟨P,cZ⟩:∃k,k=x*y:=⟨_,I⟩;have ary:=auC (x:=x) (y:=y) aa aa aI ak ax av;rw[<-cZ] at ary ⊢;have adv:hT<4294967296:=aa
 have adw:dH<4294967296:=aa
 have ady:o7<4294967296:=aa
 have adz:gj<4294967296:=aa
 have la:=FK adv ady;have N7:=FK adw ady;have atx:=FK adv adz;have r0:=FK adw adz;rw[<-aI] at la;rw[<-ak] at N7;rw[<-ax] at atx;rw[<-av] at r0;have SI:P<18446744073709551616*18446744073709551616:=by rw[cZ];exact Nat.mul_lt_mul'' U an
 obtain⟨T,cq⟩:∃k,k=b+a / 4294967296:=⟨_,I⟩;obtain⟨bE,nv⟩:∃k,k=T % 4294967296:=⟨_,I⟩;obtain⟨ct,nW⟩:∃k,k=T / 4294967296:=⟨_,I⟩;obtain⟨eJ,sE⟩:∃k,k=bE+c:=⟨_,I⟩;refine Fn.b9 (b1 Tryz.func116) I I fun H=>?_;refine af 0x1815039c0859 ?_;rw[Hn U,<-fl];refine af 0x1815039 ?_;rw[A',<-iS];refine af 0x1815039 ?_;rw[Hn an,<-hF];refine af 0x1815039 ?_;rw[A',<-UG];refine af 0x30218439 ?_;rw[CL aI];refine af 0xe8118439 ?_;rw[CL ak,A',show IntKind.u64.wrap ((b:Int)+((a / 4294967296:Nat):Int))=(T:Int) from by rw[cq,wh];exact wrap_u64 aa aa];refine af 0x60540e702 ?_;rw[Hn (x:=T) aa,<-nv];refine af 0x1815039 ?_;rw[A',<-nW];refine af 0x6308439 ?_;rw[CL ax,show((bE:Int)+(c:Int))=(eJ:Int) by rw[sE,wh]];refine af 0x281184610e702 ?_;rw[CL av,A'];refine hA V.n0 ?_;rw[show((d:Int)+(ct:Int)+((eJ / 4294967296:Nat):Int))=((P / 18446744073709551616:Nat):Int) by omega];refine af 0x610e702 ?_;rw[CL cZ];refine af 0xd5f02 ?_;refine mP ?_;(exact⟨by rw[W9];rfl,I,I⟩)
def gI(x:Nat):Nat:=if x=0 then 0 else Nat.log2 x+1
def LZ{x:Nat}(h:x≠0):2 ^ (gI x -1)<=x/\x<2 ^ gI x/\1<=gI x:=by
 unfold gI;rw[aG h];have:=(Nat.log2_eq_iff h (k:=Nat.log2 x)).1 I;exact⟨by rw[zX];exact this.1,this.2,aa⟩
def ajU{x k:Nat}(ae:2 ^ k<=x)(ag:x<2 ^ (k+1)):gI x=k+1:=by
 have U:x≠0:=fun h=>by rw[h] at ae;have:=wz k;omega
 unfold gI;rw[aG U,(Nat.log2_eq_iff U).2 ⟨ae,ag⟩]
def QR{x k:Nat}(h:2 ^ k<=x):gI x=k+gI (x / 2 ^ k):=by
 have hk:=wz k;have av:x / 2 ^ k≠0:=jP (Nat.div_pos h hk);obtain⟨ae,ag,aE⟩:=LZ av;have aF:2 ^ (k+(gI (x / 2 ^ k) -1))<=x:=by
  rw[sk,hn];exact(Lw hk).1 ae
 have aV:x<2 ^ (k+(gI (x / 2 ^ k) -1)+1):=by
  rw[show k+(gI (x / 2 ^ k) -1)+1=gI (x / 2 ^ k)+k by omega,sk];exact(wo hk).1 ag
 rw[ajU aF aV];omega
def ayx{x:Nat}:(x:Int).fdiv (2 ^ ((16:Int).toNat))=((x / 65536:Nat):Int):=Gl (q:=16)
def ayz{x:Nat}:(x:Int).fdiv (2 ^ ((8:Int).toNat))=((x / 256:Nat):Int):=Gl (q:=8)
def adg:List UInt8:=[0,1,2,2,3,3,3,3,4,4,4,4,4,4,4,4,5,5,5,5,5,5,5,5,5,5,5,5,5,5,5,5,6,6,6,6,6,6,6,6,6,6,6,6,6,6,6,6,6,6,6,6,6,6,6,6,6,6,6,6,6,6,6,6,7,7,7,7,7,7,7,7,7,7,7,7,7,7,7,7,7,7,7,7,7,7,7,7,7,7,7,7,7,7,7,7,7,7,7,7,7,7,7,7,7,7,7,7,7,7,7,7,7,7,7,7,7,7,7,7,7,7,7,7,7,7,7,7,8,8,8,8,8,8,8,8,8,8,8,8,8,8,8,8,8,8,8,8,8,8,8,8,8,8,8,8,8,8,8,8,8,8,8,8,8,8,8,8,8,8,8,8,8,8,8,8,8,8,8,8,8,8,8,8,8,8,8,8,8,8,8,8,8,8,8,8,8,8,8,8,8,8,8,8,8,8,8,8,8,8,8,8,8,8,8,8,8,8,8,8,8,8,8,8,8,8,8,8,8,8,8,8,8,8,8,8,8,8,8,8,8,8,8,8,8,8,8,8,8,8,8,8,8,8,8,8]
def YQ:∀y,y<256->adg[y]?=some (UInt8.ofNat (gI y))/\gI y<=8:=by decide+kernel
def atz{y:Nat}(h:y<256):adg[((y:Nat):Int).toNat]?=some (UInt8.ofNat (gI y)):=by rw[ff];exact(YQ y h).1
def aty{x:Nat}(U:x<18446744073709551616):Fn (aU Q g0) 147 [.int .u64 (x:Int)] [] J (fun u m' ah=>u=.int .i64 ((gI x:Nat):Int)/\m'=[]/\J=ah):=by
 refine Fn.b9 (b1 Tryz.func147) I I fun H=>?_;refine af 0x6081ce059 ?_;refine fc [0,2,4] ?_;refine bp ?_;refine' aK.pP 3 (fun(b8:(Nat)×(Nat))=>match b8 with|(y,k)=>⟨[(0,.int .u64 (y:Int)),(2,.int .i64 (k:Int))],[],J,y<4294967296/\gI x=k+gI y/\k<=32⟩) ?ak8 ?amq
 case ak8=>
  refine If (fun eA=>?_) fun eA=>?_
  ·refine af 0x1815039 ?_;rw[A'];refine af 0x6059 ?_;refine iQ ⟨x / 4294967296,32⟩ ?_;try dsimp only
   exact⟨aa,QR (k:=32) aa,aa⟩
  ·refine lu ?_;refine iQ ⟨x,0⟩ ?_;try dsimp only
   exact⟨aa,aa,aa⟩
 case amq=>
  rintro⟨y,k⟩ hinv;try simp only at hinv
  refine af 0xc1039 ?_;refine fc [0,2,8] ?_;refine bp ?_;refine' aK.pP 3 (fun(b8:(Nat)×(Nat))=>match b8 with|(g2,aT)=>⟨[(0,.int .u64 (g2:Int)),(2,.int .i64 (aT:Int))],[],J,g2<65536/\gI x=aT+gI g2/\aT<=48⟩) ?alb ?amu
  case alb=>
   refine If (fun gm=>?_) fun gm=>?_
   ·refine af 0x1815039 ?_;rw[ayx];refine af 0x1810c39 ?_;refine iQ ⟨y / 65536,k+16⟩ ?_;try dsimp only
    exact⟨aa,by have h:=QR (x:=y) (k:=16) aa;rw[show(2:Nat) ^ 16=65536 from I] at h;omega,aa⟩
   ·refine lu ?_;refine iQ ⟨y,k⟩ ?_;try dsimp only
    exact⟨aa,hinv.2.1,aa⟩
  case amu=>
   rintro⟨g2,aT⟩ hinv;try simp only at hinv
   refine af 0xc1039 ?_;refine fc [0,2,14] ?_;refine bp ?_;refine' aK.pP 3 (fun(b8:(Nat)×(Nat))=>match b8 with|(iB,bd)=>⟨[(0,.int .u64 (iB:Int)),(2,.int .i64 (bd:Int))],[],J,iB<256/\gI x=bd+gI iB/\bd<=56⟩) ?Re ?RB
   case Re=>
    refine If (fun fE=>?_) fun fE=>?_
    ·refine af 0x1815039 ?_;rw[ayz];refine af 0x1810c39 ?_;refine iQ ⟨g2 / 256,aT+8⟩ ?_;try dsimp only
     exact⟨aa,by have h:=QR (x:=g2) (k:=8) aa;rw[show(2:Nat) ^ 8=256 from I] at h;omega,aa⟩
    ·refine lu ?_;refine iQ ⟨g2,aT⟩ ?_;try dsimp only
     exact⟨aa,hinv.2.1,aa⟩
   case RB=>
    rintro⟨iB,bd⟩ hinv;try simp only at hinv
    have yF:=YQ iB aa;have hw:IntKind.i64.wrap (((UInt8.ofNat (gI iB)).toNat:Nat):Int)=((gI iB:Nat):Int):=by
      rw[UInt8.toNat_ofNat'];rw[wu aa];exact wrap_i64 aa aa
    refine af 0x70439 ?_;refine' W.step I (Exec.val I I (aAh I I I (azx I) ?aQ ?ak) ?_);case ak=>exact atz aa
    case aQ=>exact cJ
    refine af 0x357c086e ?_;refine mP ?_;exact⟨by rw[hw,<-wh,<-hinv.2.1];rfl,I,I⟩
def at7{x:Nat}(U:x<18446744073709551616):Fn (aU Q g0) 120 [.int .u64 (x:Int)] [] J (fun u m' ah=>u=.int .i64 ((64 -gI x:Nat):Int)/\m'=[]/\J=ah):=by
 have ak:gI x<=64:=by
  by_cases h:x=0
  ·subst h;decide
  ·obtain⟨ae,_,aE⟩:=LZ h
   by_cases k:gI x<=64
   ·exact k
   ·exfalso
    have:2 ^ 64<=2 ^ (gI x -1):=nd bI aa;omega
 refine Fn.b9 (b1 Tryz.func120) I I fun H=>?_;refine af 0x1ce059 ?_;refine cl (G:=aty U) (h:=?_);rintro v' m' ah hle ⟨rfl,rfl,rfl⟩;refine af 0x1abe043 ?_;refine mP ?_;exact⟨by rw[show(64:Int) -((gI x:Nat):Int)=((64 -gI x:Nat):Int) by omega];rfl,I,I⟩
structure mN (u gr v1 d' q r:Nat):Prop where
 e:q*v1+r=u
 lt:u*4294967296+gr<(q+1)*(v1*4294967296+d')
def mN.start{u gr v1 d':Nat}(aQ:gr<4294967296)(az:0<v1):mN u gr v1 d' (u / v1) (u % v1):=by
 refine⟨by rw[hn];exact uO u v1,?_⟩
 have h:u+1<=(u / v1+1)*v1:=by
  rw[g',wx,hn]
  have:=uO u v1
  have:=lh u az
  omega
 have:=hJ 4294967296 h
 rw[hV,<-lY]
 rw[g'] at this
 have aE:0<=(u / v1+1)*d':=c6 _
 omega
def mN.less{u gr v1 d' q r:Nat}(h:mN u gr v1 d' q r)(hu:u<v1*4294967296+d')(aEy:gr<4294967296)(aQ:d'<4294967296)(ar:r<4294967296)(ax:4294967296<=q\/r*4294967296+gr<q*d'):mN u gr v1 d' (q -1) (r+v1)/\1<=q:=by
 have b3:1<=q:=by
  rcases ax with c|c
  ·omega
  ·rcases oC q with k|k
   ·rw[k] at c;omega
   ·exact k
 obtain⟨p,rfl⟩:∃p,q=p+1:=⟨q -1,by omega⟩
 refine⟨⟨?_,?_⟩,b3⟩
 ·have:=h.e
  rw[g'] at this
  rw[zX]
  omega
 ·rw[zX]
  rcases ax with c|c
  ·have ae:4294967296*(v1*4294967296+d')<=(p+1)*(v1*4294967296+d'):=hJ _ c
   have ag:(u+1)*4294967296<=(v1*4294967296+d')*4294967296:=hJ _ hu
   have:=h.lt
   rw[g'] at ag
   omega
  ·have e:=h.e
   obtain⟨q,lq⟩:∃q,q=p+1:=⟨_,I⟩
   rw[<-lq] at e c ⊢
   rw[hV q,<-lY q v1]
   have ae:u*4294967296=q*v1*4294967296+r*4294967296:=by rw[<-e,g']
   rw[ae,DW]
   exact Nat.add_lt_add_left c _
def mN.done{u gr v1 d' q r:Nat}(h:mN u gr v1 d' q r)(ax:q*d'<=r*4294967296+gr):(u*4294967296+gr) / (v1*4294967296+d')=q/\(u*4294967296+gr) % (v1*4294967296+d')=u*4294967296+gr -q*(v1*4294967296+d')/\q*(v1*4294967296+d')<=u*4294967296+gr:=by
 have ae:q*(v1*4294967296+d')<=u*4294967296+gr:=by
  rw[hV q,<-lY q v1]
  have ae:u*4294967296=q*v1*4294967296+r*4294967296:=by rw[<-h.e,g']
  omega
 exact⟨(V7 ae h.lt).1,(V7 ae h.lt).2,ae⟩
def mN.YM{u gr v1 d' q r:Nat}(h:mN u gr v1 d' q r)(b3:q<=4294967296)(ar:4294967296<=r)(aQ:d'<4294967296):q*d'<=r*4294967296+gr:=by
 have ae:q*d'<=4294967296*d':=hJ _ b3
 have ag:4294967296*4294967296<=r*4294967296:=zY ar (b2 _)
 omega
def mN.azL{u v1 d' b:Nat}(hu:u<v1*b+d')(az:b<=v1*2)(aQ:d'<b):u<(b+2)*v1:=by
 rw[g',hn b,hn 2]
 exact Bz hu (Nat.add_lt_add_left (kw aQ az) _)
def mN.top{u v1 d':Nat}(hu:u<v1*4294967296+d')(az:2147483648<=v1)(aQ:d'<4294967296):u / v1<=4294967297:=by
 have h:u<4294967298*v1:=mN.azL hu (by omega) aQ
 have:u / v1<4294967298:=(wo (by omega)).2 h
 omega
def amf{eJ gr V b:Nat}(iH:0<V):(eJ*b+gr) / V=eJ / V*b+(eJ % V*b+gr) / V/\(eJ*b+gr) % V=(eJ % V*b+gr) % V:=by
 have e:eJ*b+gr=V*(eJ / V*b)+(eJ % V*b+gr):=by
  conv=>lhs;rw[<-uO eJ V]
  rw[g',lY,DW]
 constructor
 ·rw[e,Nat.mul_add_div iH]
 ·rw[e,Nat.mul_add_mod]
def ame{eJ gr V:Nat}(iH:0<V):
 (eJ*4294967296+gr) / V=eJ / V*4294967296+(eJ % V*4294967296+gr) / V/\(eJ*4294967296+gr) % V=(eJ % V*4294967296+gr) % V:=amf iH
def amc{N d s:Nat}(hs:0<s):N*s / (d*s)=N / d/\N*s % (d*s) / s=N % d:=by
 refine⟨Ya _ _ hs,?_⟩
 rw[aiK,wv _ hs]
def ayw{H L k:Nat}(hk:k<=64)(bi:L<18446744073709551616):(H*18446744073709551616+L)*2 ^ k=(H*2 ^ k+L / 2 ^ (64 -k))*18446744073709551616+L*2 ^ k % 18446744073709551616:=by
 have e:(18446744073709551616:Nat)=2 ^ (64 -k)*2 ^ k:=by rw[<-sk,Ly hk]
 have ae:=uO (L*2 ^ k) 18446744073709551616
 have ag:L*2 ^ k / 18446744073709551616=L / 2 ^ (64 -k):=by
  rw[e,Ya _ _ (wz k)]
 rw[ag] at ae
 rw[g',g']
 have cj:H*18446744073709551616*2 ^ k=H*2 ^ k*18446744073709551616:=by ac_rfl
 have eT:L / 2 ^ (64 -k)*18446744073709551616=18446744073709551616*(L / 2 ^ (64 -k)):=hn _ _
 omega
def av8{a b k:Nat}(h:b<2 ^ k):a*2 ^ k ||| b=a*2 ^ k+b:=by
 rw[hn,Nat.two_pow_add_eq_or_of_lt h]
def ahF(x:Int):IntKind.u64.wrap x=x % 18446744073709551616:=by
 unfold IntKind.wrap IntKind.signed IntKind.bits;simp only[GJ,zN,y8];rfl
def Ph{x k:Nat}:IntKind.u64.wrap ((x:Int)*2 ^ ((k:Int)).toNat)=((x*2 ^ k % 18446744073709551616:Nat):Int):=by
 rw[ff,show(x:Int)*2 ^ k=((x*2 ^ k:Nat):Int) by rw[iX,Int.natCast_pow];rfl];exact W9 _
def Pj{x k:Nat}:(x:Int).fdiv (2 ^ ((k:Int)).toNat)=((x / 2 ^ k:Nat):Int):=by
 rw[ff];exact Gl
def aeJ{a b:Nat}(aI:a<18446744073709551616)(ak:b<18446744073709551616):IntKind.u64.wrap ((BitVec.ofInt IntKind.u64.bits (a:Int) ||| BitVec.ofInt IntKind.u64.bits (b:Int)).toNat:Int)=((a ||| b:Nat):Int):=by
 have e:(BitVec.ofInt 64 (a:Int) ||| BitVec.ofInt 64 (b:Int)).toNat=a ||| b:=by
  rw[BitVec.toNat_or];have ae:(BitVec.ofInt 64 (a:Int)).toNat=a:=by rw[BitVec.toNat_ofInt];omega
  have ag:(BitVec.ofInt 64 (b:Int)).toNat=b:=by rw[BitVec.toNat_ofInt];omega
  rw[ae,ag]
 show IntKind.u64.wrap ((BitVec.ofInt 64 (a:Int) ||| BitVec.ofInt 64 (b:Int)).toNat:Int)=_;rw[e];exact W' (Nat.or_lt_two_pow (n:=64) aI ak)
def KG{x d:Nat}(U:x<18446744073709551616):IntKind.u64.wrap ((x:Int).tdiv (d:Int))=((x / d:Nat):Int):=by
 have kz:(x:Int).tdiv (d:Int)=((x / d:Nat):Int):=rfl;rw[kz];exact W' (jg (si x d) U)
def ahG{u fK P R:Nat}(cZ:P+R=u*4294967296+fK)(dU:R<18446744073709551616):IntKind.u64.wrap (IntKind.u64.wrap (IntKind.u64.wrap ((u:Int)*4294967296)+(fK:Int)) -IntKind.u64.wrap (P:Int))=(R:Int):=by
 simp only[ahF];omega
def ajT{x:Nat}(h:x<18446744073709551616):gI x<=64:=by
 by_cases aQ:x=0
 ·subst aQ;decide
 ·obtain⟨ae,_,aE⟩:=LZ aQ
  by_cases k:gI x<=64
  ·exact k
  ·exfalso
   have:2 ^ 64<=2 ^ (gI x -1):=nd bI aa;omega
def au5{d:Nat}(aQ:d≠0)(h:d<18446744073709551616):d*2 ^ (64 -gI d)<18446744073709551616/\9223372036854775808<=d*2 ^ (64 -gI d)/\64 -gI d<=63:=by
 obtain⟨ae,ag,aE⟩:=LZ aQ;have a6:=ajT h;have aF:2 ^ gI d*2 ^ (64 -gI d)=18446744073709551616:=by rw[<-sk,show gI d+(64 -gI d)=64 by omega]
 have aV:2 ^ (gI d -1)*2 ^ (64 -gI d)=9223372036854775808:=by rw[<-sk,show gI d -1+(64 -gI d)=63 by omega]
 have dK:=Yb ag (wz (64 -gI d));have ga:=hJ (2 ^ (64 -gI d)) ae;omega
structure ah6 (H L d k V v1 d' u w fK gr jQ:Nat):Prop where
 hk:k=64 -gI d
 ac1:k<=63
 iH:d*2 ^ k=V
 wG:V=v1*4294967296+d'
 LF:V<18446744073709551616
 PA:2147483648<=v1
 ag2:v1<4294967296
 r8:d'<4294967296
 XB:H*2 ^ k<18446744073709551616
 Bx:L / 2 ^ (64 -k)<2 ^ k
 aiw:L / 2 ^ (64 -k)<18446744073709551616
 hu:u=H*2 ^ k+L / 2 ^ (64 -k)
 agX:u<V
 hw:L*2 ^ k % 18446744073709551616=w
 aAS:w<18446744073709551616
 nv:w / 4294967296=fK
 Cy:w % 4294967296=gr
 Dm:fK<4294967296
 Dl:gr<4294967296
 Qi:jQ=(u*4294967296+fK) % V
 Yk:jQ<V
 b3:(H*18446744073709551616+L) / d=(u*4294967296+fK) / V*4294967296+(jQ*4294967296+gr) / V
 ar:(H*18446744073709551616+L) % d=(jQ*4294967296+gr) % V / 2 ^ k
 qN:(u*4294967296+fK) / V*4294967296+(jQ*4294967296+gr) / V<18446744073709551616
def al9{H L d:Nat}(ka:H<d)(bi:L<18446744073709551616)(av:d<18446744073709551616):∃k V v1 d' u w fK gr jQ,ah6 H L d k V v1 d' u w fK gr jQ:=by
 have h6:d≠0:=aa
 obtain⟨k,hk⟩:∃k,k=64 -gI d:=⟨_,I⟩;obtain⟨bH,c2,fb⟩:=au5 h6 av;rw[<-hk] at bH c2 fb;obtain⟨V,iH⟩:∃V,d*2 ^ k=V:=⟨_,I⟩;rw[iH] at bH c2;obtain⟨w,hw⟩:∃w,L*2 ^ k % 18446744073709551616=w:=⟨_,I⟩;have UC:w<18446744073709551616:=by rw[<-hw];exact lh _ bI
 have aC':H*2 ^ k<V:=by rw[<-iH];exact Yb ka (wz k)
 have amQ:2 ^ (64 -k)*2 ^ k=18446744073709551616:=by rw[<-sk,Ly aa]
 have aaW:L / 2 ^ (64 -k)<2 ^ k:=(wo (wz _)).2 (by rw[hn,amQ];exact bi);obtain⟨u,hu⟩:∃u,u=H*2 ^ k+L / 2 ^ (64 -k):=⟨_,I⟩;have ase:u<V:=by
  have ae:(H+1)*2 ^ k<=V:=by rw[<-iH];exact hJ _ ka
  rw[g',wx] at ae;omega
 have hs:=ayw (H:=H) (k:=k) aa bi;rw[<-hu,hw] at hs;have kI:=wz k;have EV:0<V:=aa
 have e:u*18446744073709551616+w=(u*4294967296+w / 4294967296)*4294967296+w % 4294967296:=aa
 obtain⟨s1,s2⟩:=amc (N:=H*18446744073709551616+L) (d:=d) kI;obtain⟨t1,t2⟩:=ame (eJ:=u*4294967296+w / 4294967296) (gr:=w % 4294967296) EV;rw[iH,hs,e] at s1 s2;refine⟨k,V,V / 4294967296,V % 4294967296,u,w,w / 4294967296,w % 4294967296,_,hk,fb,iH,aa,bH,aa,aa,aa,aa,aaW,jg (si _ _) bi,hu,ase,hw,UC,I,I,aa,aa,I,lh _ EV,s1.symm.trans t1,by rw[<-s2,t2],?_⟩;rw[<-t1,s1];exact(wo aa).2 (by
  have:=hJ 18446744073709551616 ka;rw[hn 18446744073709551616 d];rw[nf] at this;omega)
def ZD{H L d:Nat}(ka:H<d)(bi:L<18446744073709551616)(av:d<18446744073709551616):Fn (aU Q g0) 144 [.int .u64 (H:Int),.int .u64 (L:Int),.int .u64 (d:Int)] [] J (fun u m' ah=>u=.tuple #[.int .u64 (((H*18446744073709551616+L) / d:Nat):Int),.int .u64 (((H*18446744073709551616+L) % d:Nat):Int)]/\m'=[]/\J=ah):=by
 obtain⟨k,e7,v1,d',u,w,fK,gr,jQ,D⟩:=al9 ka bi av;have ac1:=D.ac1;have iH:=D.iH;have wG:=D.wG;have LF:=D.LF;have PA:=D.PA;have ag2:=D.ag2;have r8:=D.r8;have agX:=D.agX;have Dm:=D.Dm;have Dl:=D.Dl;have Qi:=D.Qi;have Yk:=D.Yk;have qN:=D.qN;refine Fn.b9 (b1 Tryz.func144) I I fun aBs=>?_;refine af 0x17c1039c0859 ?_;refine If (fun nO=>?_) fun nO=>?_
 ·exfalso;omega
 ·refine af 0xbe0810e757 ?_;refine If (fun yl=>?_) fun yl=>?_
  ·exfalso;omega
  ·refine af 0x5f040e757 ?_;refine If (fun ll=>?_) fun ll=>?_
   ·have aQ:H=0:=aa
    subst aQ;rw[nM,j8];refine bp ?_;refine aK.draw I (by kernel_rfl) (a0:=[.val 0,.val 1,.val 2,.val 3,.val 4,.val 5,.val 6,.val 7]) (by kernel_rfl) ?_;refine af 0x6af8109e10bc21 ?_;refine mP ?_
    exact⟨by rw[KG bi];rfl,I,I⟩
   ·refine af 0xe757 ?_;refine cl (G:=at7 av) (h:=?_);rintro v' m' ah hle ⟨rfl,rfl,rfl⟩;rw[<-D.hk];refine af 0x1815021ce04e ?_;rw[Ph,iH,wu LF];refine af 0x5039 ?_;rw[A',show e7 / 4294967296=v1 by omega];refine af 0x140e702 ?_;rw[Hn LF,show e7 % 4294967296=d' by omega];refine af 0x2810e702 ?_;rw[Ph,wu D.XB];refine af 0xc21 ?_;rw[show(64:Int) -(k:Int)=((64 -k:Nat):Int) by omega];refine hA V.Ef ?_;rw[Pj];refine hA V.Ef ?_;rw[aeJ D.XB D.aiw,av8 D.Bx,<-D.hu];refine af 0x2810e702 ?_;rw[Ph,D.hw];refine af 0x140e702 ?_;rw[A',D.nv];refine af 0x140e702 ?_;rw[Hn D.aAS,D.Cy];refine af 0x1e10e702 ?_;rw[KG aa];obtain⟨k',Cu⟩:∃q,q=u / v1:=⟨_,I⟩;obtain⟨q3,dL⟩:∃r,r=u % v1:=⟨_,I⟩;have hm:k'*v1+q3=u:=by rw[Cu,dL,hn];exact uO u v1
    have aEq:q3<v1:=by rw[dL];exact lh _ aa
    have gL:mN u fK v1 d' k' q3:=by rw[Cu,dL];exact mN.start Dm aa
    have arD:k'<=4294967297:=by rw[Cu];exact mN.top aa PA r8
    rw[<-Cu];refine af 0x18c210e702 ?_;rw[show(u:Int) -(k':Int)*(v1:Int)=(q3:Int) by omega];refine af 0x302 ?_;refine fc [15,16,2,8,9,10,11,13,14] ?_;refine bp ?_;refine' aK.pP 2 (fun(aN:Nat)=>⟨[(15,.int .u64 (aN:Int))],[],J,aN=(u*4294967296+fK) / e7⟩) ?alw ?amx;case alw=>
     refine aK.block ?_;refine dV [(15,.int .u64 ((k'):Int)),(16,.int .u64 ((q3):Int)),(2,_),(8,_),(9,_),(10,_),(11,_),(13,_),(14,_)] ?_;refine bp ?_;refine' aK.og (fun(b8:Nat×Nat)=>match b8 with|(q,r)=>⟨[(15,.int .u64 (q:Int)),(16,.int .u64 (r:Int))],mN u fK v1 d' q r/\r<4294967296/\q<=4294967297,q⟩) ⟨k',q3⟩ ?hs ?bn
     case hs=>exact⟨gL,aa,arD⟩
     case bn=>
      rintro⟨q,r⟩ hinv;try simp only at hinv
      obtain⟨dS,ar,b3⟩:=hinv;refine fc [2,8,9,10,11,13,14,15,16] ?_;refine bp ?_;refine' aK.hp 0 [(78,.bool (decide ((4294967296<=q\/r*4294967296+fK<q*d'))))] ?HP ?HY;case HP=>
        refine af 0x903a ?_;refine eX 69 (fun aox=>?_) fun aox=>?_
        ·refine af 0x308def7bdef7b ?_;refine ho (hC ?_);omega
        ·have ak:=FK (a:=q) (b:=d') aa aa;refine af 0x30820c2308c21 ?_;refine ho (hC ?_);omega
      case HY=>
        refine bp ?_;refine If (fun BH=>?_) fun BH=>?_
        ·have jU:=(dS.less aa Dm r8 ar BH).2;refine af 0xbe081ce0430873810c39d5f57 ?_;refine If (fun aku=>?_) fun aku=>?_
         ·refine af 0x357 ?_;refine iQ (q -1) ?_;try dsimp only
          rw[wG];exact((dS.less aa Dm r8 ar BH).1.done (mN.YM (dS.less aa Dm r8 ar BH).1 aa aa r8)).1.symm
         ·refine lu ?_;refine om ⟨q -1,r+v1⟩ ?_;exact⟨(dS.less aa Dm r8 ar BH).1,aa,aa⟩
        ·refine af 0x357 ?_;refine iQ (q) ?_;try dsimp only
         rw[wG];exact(dS.done aa).1.symm
    case amx=>
     rintro aN hinv;try simp only at hinv
     have jU:=hinv;have cZ:=(show ∃P,P=aN*e7/\P+jQ=u*4294967296+fK from⟨_,I,by rw[jU,Qi,hn];exact uO _ e7⟩);obtain⟨P,sC,tG⟩:=cZ;refine af 0x31842308c39 ?_;rw[CL sC,ahG tG aa];refine af 0x1e10e702 ?_;rw[KG aa];obtain⟨hQ,mA⟩:∃q,q=jQ / v1:=⟨_,I⟩;obtain⟨ux,Uf⟩:∃r,r=jQ % v1:=⟨_,I⟩;have Fc:hQ*v1+ux=jQ:=by rw[mA,Uf,hn];exact uO jQ v1
     have aEt:ux<v1:=by rw[Uf];exact lh _ aa
     have hg:mN jQ gr v1 d' hQ ux:=by rw[mA,Uf];exact mN.start Dl aa
     have arw:hQ<=4294967297:=by rw[mA];exact mN.top aa PA r8
     rw[<-mA];refine af 0x18c210e702 ?_;rw[show(jQ:Int) -(hQ:Int)*(v1:Int)=(ux:Int) by omega];refine af 0x302 ?_;refine fc [9,10,16,18,2,8,14,15,17] ?_;refine bp ?_;refine' aK.pP 4 (fun(aH:Nat)=>⟨[(18,.int .u64 (aH:Int))],[],J,aH=(jQ*4294967296+gr) / e7⟩) ?Rj ?RD;case Rj=>
      refine aK.block ?_;refine dV [(18,.int .u64 ((hQ):Int)),(16,.int .u64 ((ux):Int)),(2,_),(8,_),(9,_),(10,_),(14,_),(15,_),(17,_)] ?_;refine bp ?_;refine' aK.og (fun(b8:Nat×Nat)=>match b8 with|(q,r)=>⟨[(18,.int .u64 (q:Int)),(16,.int .u64 (r:Int))],mN jQ gr v1 d' q r/\r<4294967296/\q<=4294967297,q⟩) ⟨hQ,ux⟩ ?hs ?bn
      case hs=>exact⟨hg,aa,arw⟩
      case bn=>
        rintro⟨q,r⟩ hinv;try simp only at hinv
        obtain⟨dS,ar,b3⟩:=hinv;refine fc [2,8,9,10,14,15,16,17,18] ?_;refine bp ?_;refine' aK.hp 0 [(113,.bool (decide ((4294967296<=q\/r*4294967296+gr<q*d'))))] ?Rq ?RF;case Rq=>
         refine af 0x903a ?_;refine eX 104 (fun MK=>?_) fun MK=>?_
         ·refine af 0x308def7bdef7b ?_;refine ho (hC ?_);omega
         ·have ak:=FK (a:=q) (b:=d') aa aa;refine af 0x30820c2308c21 ?_;refine ho (hC ?_);omega
        case RF=>
         refine bp ?_;refine If (fun HB=>?_) fun HB=>?_
         ·have aEn:=(dS.less aa Dl r8 ar HB).2;refine af 0xbe081ce0430873810c39d5f57 ?_;refine If (fun aj7=>?_) fun aj7=>?_
          ·refine af 0x357 ?_;refine iQ (q -1) ?_;try dsimp only
           rw[wG];exact((dS.less aa Dl r8 ar HB).1.done (mN.YM (dS.less aa Dl r8 ar HB).1 aa aa r8)).1.symm
          ·refine lu ?_;refine om ⟨q -1,r+v1⟩ ?_;exact⟨(dS.less aa Dl r8 ar HB).1,aa,aa⟩
         ·refine af 0x357 ?_;refine iQ (q) ?_;try dsimp only
          rw[wG];exact(dS.done aa).1.symm
     case RD=>
      rintro aH hinv;try simp only at hinv
      have lq:=hinv;obtain⟨LB,vi,SG⟩:=(show ∃P,P=aH*e7/\P+(jQ*4294967296+gr) % e7=jQ*4294967296+gr from⟨_,I,by rw[lq,hn];exact uO _ e7⟩);have aDn:(jQ*4294967296+gr) % e7<e7:=lh _ aa;rw[<-jU,<-lq] at qN;have w':(aN:Int)*4294967296+(aH:Int)=(((H*18446744073709551616+L) / d:Nat):Int):=by rw[D.b3,<-jU,<-lq,wh,iX];rfl
      refine af 0x308c39 ?_;rw[w'];refine af 0x18c2118461 ?_;rw[CL vi,ahG SG aa];refine af 0x281 ?_;rw[Pj,<-D.ar];refine af 0x1abe042 ?_;refine mP ?_
      exact⟨I,I,I⟩
end
def ahg:∀{l:List Nat},(∀j y:Nat,l[j]?=some y->y=0)->cF l=0
 |[],_=>rfl
 |x::l,h=>by
  show x+18446744073709551616*cF l=0
  rw[h 0 x I,ahg (l:=l) fun j y aW=>h (j+1) y aW]
def agU{l:List Nat}{k:Nat}(al:okW l)(hk:k<=l.length)(aR:∀j y,k<=j->l[j]?=some y->y=0)(aA:∀y,0<k->l[k -1]?=some y->y≠0):l.take k=a7 (cF l):=by
 have ae:zP (l.take k):=⟨Ke al,fun x U=>by
  have ap:0<k:=by
   rcases oC k with q|q
   ·rw[q] at U;cases U
   ·exact q
  refine aA x ap ?_
  rw[x7,eL,gv hk,iY,aP (by omega)] at U
  exact U⟩
 have ag:=KU l k hk
 rw[ahg (l:=l.drop k) fun j y aW=>by
  rw[n2] at aW
  exact aR (k+j) y (by omega) aW] at ag
 rw[Mq ae,ag]
 congr 1
def ahz{x:Nat}:∀{k:Nat},x<18446744073709551616 ^ k->(a7 x).length<=k:=by
 intro k
 induction k generalizing x with
 |zero=>
  intro h
  have:x=0:=by rw[Lx] at h;omega
  rw[this,th];exact b2 _
 |succ k aC=>
  intro h
  by_cases q:x=0
  ·rw[q,th];exact c6 _
  ·rw[xY q,ks]
   have:x / 18446744073709551616<18446744073709551616 ^ k:=by
        rw[wo (by decide),<-lz];exact h
   have:=aC this
   omega
def Gx{x k:Nat}(h:(a7 x).length<=k):x<18446744073709551616 ^ k:=by
 have ae:=Gv (xI x)
 rw[nI] at ae
 exact kw ae (nd (by decide) h)
def KY{x:Nat}(h:x≠0):(a7 x).length≠0:=by rw[xY h,ks];omega
def v0{x:Nat}(h:(a7 x).length≠0):x≠0:=fun q=>by rw[q,th] at h;exact h I
def PH{x y:Nat}(h:(a7 x).length<(a7 y).length):x<y:=by
 have:=aAw (xI x) (Zy y) h
 rwa [nI,nI] at this
def ahA{x y i a b:Nat}(aI:(a7 x)[i]?=some a)(ak:(a7 y)[i]?=some b)(av:(a7 x).drop (i+1)=(a7 y).drop (i+1))(h:a<b):x<y:=by
 have:=aAx (xI x) aI ak av h
 rwa [nI,nI] at this
def PD(l:List Nat)(i:Nat):cF (l.take (i+1))=cF (l.take i)+18446744073709551616 ^ i*l.getD i 0:=by
 by_cases h:i<l.length
 ·rw[Dv (cU h),ld,cU h];rfl
 ·rw[ld,jq (by omega),ft (by omega),ft (by omega)];rfl
def WX(l:List Nat)(x:Nat):cF (l++[x])=cF l+18446744073709551616 ^ l.length*x:=by rw[KS,PE]
def aay{l:List Nat}(h:okW l)(i:Nat):l.getD i 0<18446744073709551616:=by
 rw[ld]
 rcases q:l[i]? with _|x
 ·decide
 ·exact OG h q
def VH:okW []:=fun z aR=>(by cases aR)
def Ae{x y:Nat}:j' x y<0↔x<y:=by unfold j';split<;>(try split)<;>omega
def Zm{x y:Nat}:j' x y=0↔x=y:=by unfold j';split<;>(try split)<;>omega
def Em{x y:Nat}(h:x<y):j' x y=-1:=by unfold j';split<;>(try split)<;>omega
def En{x y:Nat}(h:y<x):j' x y=1:=by unfold j';split<;>(try split)<;>omega
def Mk{x y:Nat}(h:x=y):j' x y=0:=by unfold j';split<;>(try split)<;>omega
def drop_cons{l:List Nat}{i x:Nat}(h:l[i]?=some x):l.drop i=x::l.drop (i+1):=by
 have hi:=(dO.1 h).1;have U:l[i]=x:=by rw[cU hi] at h;injection h
 rw[tn hi,U]
def vc{l:List Nat}{i x:Nat}(h:l[i]?=some x):l.getD i 0=x:=by rw[ld,h];rfl
def B1{l:List Nat}{i:Nat}(h:l.length<=i):l.getD i 0=0:=by rw[ld,jq h];rfl
def dZ.at{k:IntKind}{J:ai}{b:Option Addr}{n c:Nat}{l:List Nat}(h:dZ k J (.slice b n c) l)(ap:0<l.length):∃a off cells e,b=some ⟨a,off,none⟩/\J a=some (cells,e)/\∀i:Nat,i<l.length->∃x,l[i]?=some x/\nth cells (off+i*1)=some (.int k (x:Int)):=by
 obtain⟨a,off,cells,e,ae,ag,aE⟩:=h.eG ap;exact⟨a,off,cells,e,ae,ag,fun i hi=>⟨l[i],cU hi,aE i _ (cU hi)⟩⟩
def Vl{x:Nat}(h:x≠0):0<(a7 x).length:=by have:=KY h;omega
def um{x y:Nat}(h:x<=y):(a7 x).length<=(a7 y).length:=by
 apply G9
 intro q;have:=PH q;omega
def J5{x k:Nat}(h:x<18446744073709551616 ^ k):(a7 x).length<=k:=ahz h
def ad7{x y k:Nat}(U:(a7 x).length<=k)(an:(a7 y).length<=k):(a7 (x+y)).length<=k+1:=by
 have ae:=Gx U;have ag:=Gx an;refine J5 ?_;rw[lz];omega
def zk{x y k j:Nat}(U:(a7 x).length<=k)(an:(a7 y).length<=j):(a7 (x*y)).length<=k+j:=by
 have ae:=Gx U;have ag:=Gx an;refine J5 ?_;rw[sk];exact Nat.mul_lt_mul'' ae ag
def jk{x:Nat}(h:x<18446744073709551616):(a7 x).length<=1:=J5 (by rw[D3];exact h)
def Dw{x:Nat}(aQ:x≠0)(h:x<18446744073709551616):a7 x=[x]:=by
 rw[xY aQ,wu h,G4 h,th]
def Vm{x:Nat}(h:(a7 x).length=1):a7 x=[x]/\x<18446744073709551616/\x≠0:=by
 have ae:x<18446744073709551616:=by have:=Gx (x:=x) (k:=1) (G7 h);rwa [D3] at this
 have aQ:x≠0:=v0 (by show(a7 x).length≠0;omega);exact⟨Dw aQ ae,ae,aQ⟩
def c5.at{J:ai}{b:Option Addr}{n c x:Nat}(h:c5 J (.slice b n c) x)(ap:x≠0):∃a off cells e,b=some ⟨a,off,none⟩/\J a=some (cells,e)/\∀i:Nat,i<(a7 x).length->∃y,(a7 x)[i]?=some y/\nth cells (off+i*1)=some (.int .u64 (y:Int))/\y<18446744073709551616:=by
 obtain⟨a,off,cells,e,ae,ag,aE⟩:=dZ.at h (Vl ap);exact⟨a,off,cells,e,ae,ag,fun i hi=>by obtain⟨y,aX,aT⟩:=aE i hi;exact⟨y,aX,aT,OG (xI x) aX⟩⟩
def dZ.Dq{k:IntKind}{J ah:ai}{v:Value}{l a9:List Nat}(h:dZ k J v l)(h4:dZ k ah v a9)(hle:J.le ah):l=a9:=by
 obtain⟨b,c,aF⟩:=h.form;obtain⟨b',c',aV⟩:=h4.form;rw[aF] at aV;injection aV with _ aV _
 subst aF;apply List.ext_getElem aV
 intro i i1 i2;obtain⟨a,off,cells,e,rfl,JL,JM⟩:=dZ.at h aa;obtain⟨bD,gM,cells',bA,w,aX,aT⟩:=dZ.at h4 aa;injection w with w
 injection w with bE ct
 subst bE;subst ct;rw[hle _ _ JL] at aX;injection aX with aX
 injection aX with bE ct
 subst bE;obtain⟨x,dH,eP⟩:=JM i i1;obtain⟨y,gj,g2⟩:=aT i i2;rw[eP] at g2;injection g2 with g2
 injection g2 with _ g2
 rw[cU i1] at dH;rw[cU i2] at gj;injection dH with dH
 injection gj with gj
 omega
def c5.Dq{J ah:ai}{v:Value}{x y:Nat}(h:c5 J v x)(h4:c5 ah v y)(hle:J.le ah):x=y:=by
 have:=dh cF (dZ.Dq h h4 hle);rwa [nI,nI] at this
section
variable {K:dW}{B:dN}{o:Oper}{n:Nat}{ds:er}{l:List (Nat×Value)}{m:aJ}{J:ai}
def ag'{t e:TypeId}{x:Operand}{hi:Operand}{iZ off k cap sz:Nat}{gA:List Value}{b:Int}{ub:IntKind}(al:o.op=.slice t x none (some hi) none)(U:bS l x=some (.slice (some ⟨iZ,off,none⟩) k cap))(aM:nF K.P t=some (e,sz,gA))(lK:bS l hi=some (.int ub b))(aQ:0<=b)(ae:b<=cap)(ax:cap<cK):dr K B o n ds l m J (.slice (some ⟨iZ,off,none⟩) b.toNat cap):=by
 obtain⟨hu,en,_⟩:=vX aM;intro call aO S H au aD;obtain⟨CS,s8,s9⟩:=Aa (ju:=k) (top:=cap) (dl:=(k:Int)) (i:=b) (x:=some hi) au H (by unfold yj;simp only[lK]) aQ ae I;unfold cA fi;simp only[al];show oi K.P _ t (a5 S.T H x) (iT S.T H none) (iT S.T H (some hi))=_;rw[dw au H U,s8,show iT S.T H none=some none from I];unfold oi;simp only
 have:l4 K.P H t (.slice (some ⟨iZ,off,none⟩) k cap) none CS=some (.slice (some ⟨iZ,off,none⟩) b.toNat cap):=by
  unfold l4;simp only[hu,en];rw[show Nat.beq cap cK=false from by
   cases ak:Nat.beq cap cK with
   |false=>rfl
   |true=>have:=eM ak;omega,dQ,s9]
  simp only[l2];cases ak:Nat.beq cap 0 with
  |false=>rw[dQ];simp
  |true=>rw[cd];simp
 rw[this];rfl
end
abbrev pF(k:IntKind)(t a:Nat)(l:List Nat):Nat×df:=(a,.row (cc k l) t)
abbrev lA(J:ai)(x:Nat):Value->aJ->ai->Prop:=fun u m' ah=>J.le ah/\m'=[]/\c5 ah u x
def HI{c:Nat}(h:c<1000000):c<cK:=Bz h bI
def lA.hs{J qo:ai}{x hT:Nat}(hle:qo.le J)(eU:hT=x){a1:aJ}(hm:a1=[]):a1=[]/\qo.le J/\∀v m' bj c3,lA qo hT v m' bj->bj.le c3->J.le c3->lA J x v m' c3:=
 ⟨hm,hle,fun v m' bj c3 ⟨_,ag,aE⟩ a6 dK=>⟨dK,ag,eU▸aE.mono a6⟩⟩
section
variable {Q:da Tryz.prog}{g0:Nat}{J:ai}
def FE{v:Value}{x:Nat}(h:c5 J v x)(ak:(a7 x).length<=100000):Fn (aU Q g0) 115 [v] [] J (fun u m' ah=>u=.bool (decide (x=1))/\m'=[]/\J=ah):=by
 obtain⟨b,c,rfl,oo⟩:=h.ch;refine Fn.b9 (b1 Tryz.func115) I I fun H=>?_;refine af 0x90a1ce059 ?_;refine eX 6 (fun jT=>?_) fun jT=>?_
 ·obtain⟨aF,aV,cj⟩:=Vm (x:=x) (by show(a7 x).length=1;omega);obtain⟨a,off,cells,e,rfl,gX,az⟩:=h.at cj;obtain⟨y,an,az,_⟩:=az 0 (by show 0<(a7 x).length;omega);rw[aF] at an;obtain rfl:x=y:=LA an;refine af 0x1abe048224c1 ?_;refine mP ?_
  exact⟨dh Value.bool (by((by_cases q:x=1<;>simp[q]<;>omega))),I,I⟩
 ·refine af 0x1abe048def7b ?_;refine mP ?_
  have c:=jT
  exact⟨dh Value.bool (by(have q:x≠1:=fun q=>c (by rw[q,Dw bI bI];rfl);simp[q])),I,I⟩
def HO{v w:Value}{x y:Nat}(ae:c5 J v x)(ag:c5 J w y)(U:(a7 x).length<=100000)(an:(a7 y).length<=100000):Fn (aU Q g0) 95 [v,w] [] J (fun u m' ah=>u=.int .i64 (j' x y)/\m'=[]/\J=ah):=by
 obtain⟨bc,bb,rfl,aN⟩:=ae.ch;obtain⟨bl,bt,rfl,aH⟩:=ag.ch;refine Fn.b9 (b1 Tryz.func95) I I fun H=>?_;refine af 0x5f04284a1ce059 ?_;refine If (fun dt=>?_) fun dt=>?_
 ·refine af 0xbe08509439 ?_;refine If (fun gh=>?_) fun gh=>?_
  ·refine af 0x1abe059 ?_;refine mP ?_
   exact⟨by rw[Em (PH aa)];rfl,I,I⟩
  ·refine af 0x6af816757 ?_;refine mP ?_
   exact⟨by rw[En (PH aa)];rfl,I,I⟩
 ·refine af 0x357c08650e757 ?_;refine dV [(5,.int .i64 ((((a7 x).length):Int) -1)),(0,_),(1,_)] ?_;refine bp ?_;refine' aK.og (fun(k:Nat)=>⟨[(5,.int .i64 ((k:Int) -1))],k<=(a7 x).length/\(a7 x).drop k=(a7 y).drop k,k⟩) ((a7 x).length) ?hs ?bn;case hs=>exact⟨b2 _,by rw[to aa,to aa]⟩
  case bn=>
   rintro k hinv;try simp only at hinv
   obtain⟨hk,av⟩:=hinv;refine af 0x17c1039 ?_;refine If (fun nO=>?_) fun nO=>?_
   ·obtain⟨a,o,cl,e,rfl,gX,az⟩:=ae.at (v0 aa);obtain⟨bD,o',El,bA,rfl,IJ,vz⟩:=ag.at (v0 aa);obtain⟨p,ap,lp,_⟩:=az (k -1) (by show k -1<(a7 x).length;omega);obtain⟨q,b3,Cr,_⟩:=vz (k -1) (by show k -1<(a7 y).length;omega);have lp:nth cl (o+((k:Int) -1).toNat*1)=some (.int .u64 (p:Int)):=by rw[show((k:Int) -1).toNat=k -1 by omega];exact lp
    have Cr:nth El (o'+((k:Int) -1).toNat*1)=some (.int .u64 (q:Int)):=by rw[show((k:Int) -1).toNat=k -1 by omega];exact Cr
    refine af 0x17d5f57 ?_;refine aK.draw I (by kernel_rfl) (a0:=[.val 0,.val 1,.val 2,.val 3,.val 4,.val 5,.val 6,.val 7,.val 8]) (by kernel_rfl) ?_;refine af 0x5f044982149821 ?_;refine If (fun yn=>?_) fun yn=>?_
    ·refine af 0x1abe059 ?_;refine mP ?_
     exact⟨by rw[Em (ahA ap b3 (by rw[show k -1+1=k by omega];exact av) aa)];rfl,I,I⟩
    ·refine af 0x5f57 ?_;refine aK.draw I (by kernel_rfl) (a0:=[.val 0,.val 1,.val 2,.val 3,.val 4,.val 5,.val 6,.val 7,.val 8]) (by kernel_rfl) ?_;refine af 0x5f044982149821 ?_;refine If (fun u0=>?_) fun u0=>?_
     ·refine af 0x1abe059 ?_;refine mP ?_
      exact⟨by rw[En (ahA b3 ap (by rw[show k -1+1=k by omega];exact av.symm) aa)];rfl,I,I⟩
     ·refine af 0x60430e757 ?_;refine om (k -1) ?_;exact⟨aa,by rw[drop_cons (i:=k -1) ap,drop_cons (i:=k -1) b3,show k -1+1=k by omega,av];congr 1;omega⟩
   ·refine af 0x6af816757 ?_;refine mP ?_
    exact⟨by
     obtain rfl:k=0:=aa
     rw[Mk (show x=y by rw[<-nI x,<-nI y];exact dh cF av)];rfl,I,I⟩
def KI{a n cap:Nat}{l:List Nat}(al:okW l)(aA:n<=l.length)(ax:n<=cap)(hM:cap<1000000):
 Fn (aU Q g0) 118 [.slice (some ⟨a,0,none⟩) n cap] [pF .u64 121 a l] J (fun u m' ah=>∃k,u=.slice (some ⟨a,0,none⟩) k cap/\k<=n/\l.take k=a7 (cF (l.take n))/\m'=[pF .u64 121 a l]/\J=ah):=by
 have aEk:cap<cK:=HI hM;have rJ:(l.take n).length=n:=by rw[eL];omega
 have fin:∀k:Nat,k<=n->(∀j y,k<=j->(l.take n)[j]?=some y->y=0)->(∀y,0<k->(l.take n)[k -1]?=some y->y≠0)->l.take k=a7 (cF (l.take n)):=fun k hk ae ag=>by
  rw[<-agU (Ke al) (by rw[rJ];exact hk) ae ag,qq,gv hk]
 refine Fn.b9 (b1 Tryz.func118) I I fun H=>?_;refine af 0x357c08a1ce059 ?_;refine dV [(3,.int .i64 ((n):Int)),(0,_)] ?_;refine bp ?_;refine' aK.og (fun(k:Nat)=>⟨[(3,.int .i64 (k:Int))],k<=n/\∀j y,k<=j->(l.take n)[j]?=some y->y=0,k⟩) (n) ?hs ?bn;case hs=>exact⟨b2 _,fun j y ae ag=>by have:=(dO.1 ag).1;omega⟩
 case bn=>
  rintro k hinv;try simp only at hinv
  obtain⟨hk,aR⟩:=hinv;refine af 0x9039 ?_;refine eX 8 (fun Iv=>?_) fun Iv=>?_
  ·obtain⟨x,U⟩:∃x,l[k -1]?=some x:=⟨_,cU aa⟩;have gd:(l.take n)[k -1]?=some x:=by rw[iY,aP aa];exact U
   have aA:nth (cc .u64 l) (0+((k:Int) -1).toNat*1)=some (.int .u64 (x:Int)):=uo U aa;refine af 0x17c208a30c21 ?_;refine If (fun gh=>?_) fun gh=>?_
   ·refine af 0x1810c39d5f57 ?_;refine om (k -1) ?_;exact⟨aa,fun j y ae ag=>by
     by_cases q:k<=j
     ·exact aR j y q ag
     ·obtain rfl:j=k -1:=aa
      rw[gd] at ag;injection ag with ag;omega⟩
   ·refine af 0x10e757 ?_;refine' W.step I (Exec.val I I (ag' I I (ee I) I ?aQ ?ae ?ag) ?_);case aQ=>exact cJ
    case ae=>exact cJ
    case ag=>assumption
    refine af 0xd5f02 ?_;refine iw ?_
    exact⟨k,by rw[ff];rfl,hk,fin k hk aR (fun y ae ag=>by rw[gd] at ag;injection ag with ag;omega),I,I⟩
  ·refine af 0x439d5f57c237bdef7b ?_;refine' W.step I (Exec.val I I (ag' I I (ee I) I ?aQ ?ae ?ag) ?_);case aQ=>exact cJ
   case ae=>exact cJ
   case ag=>assumption
   refine af 0xd5f02 ?_;refine iw ?_
   exact⟨k,by rw[ff];rfl,hk,fin k hk aR (fun y ae ag=>by omega),I,I⟩
def WW{z:List Nat}{i y:Nat}(h:i<z.length):cF ((z.set i y).take (i+1))=cF (z.take i)+18446744073709551616 ^ i*y:=by
 rw[Dv (x:=y) (by rw[qp,aP I,aP h]),Qa (b2 i)]
def Ze(i s:Nat):18446744073709551616 ^ i*s=18446744073709551616 ^ i*(s % 18446744073709551616)+18446744073709551616 ^ (i+1)*(s / 18446744073709551616):=by
 conv=>lhs;rw[<-G' s 18446744073709551616]
 rw[hV,lz,lY]
def awP{x y:List Nat}{z:List Nat}{i c a b:Nat}(hi:i<z.length)(aI:x.getD i 0=a)(ak:y.getD i 0=b)(h:cF (z.take i)+18446744073709551616 ^ i*c=cF (x.take i)+cF (y.take i)):
 cF ((z.set i ((a+b+c) % 18446744073709551616)).take (i+1))+18446744073709551616 ^ (i+1)*((a+b+c) / 18446744073709551616)=cF (x.take (i+1))+cF (y.take (i+1)):=by
 rw[WW hi,PD x,PD y,aI,ak];have e:=Ze i (a+b+c);rw[hV,hV] at e;omega
def aul{x y:List Nat}{z:List Nat}{i c a b:Nat}(hi:i<z.length)(hr:a<18446744073709551616)(kE:b<18446744073709551616)(ax:c<=1)(aI:x.getD i 0=a)(ak:y.getD i 0=b)(h:cF (z.take i)+cF (y.take i)=cF (x.take i)+18446744073709551616 ^ i*c):
 cF ((z.set i ((a+18446744073709551616 -b -c) % 18446744073709551616)).take (i+1))+cF (y.take (i+1))=cF (x.take (i+1))+18446744073709551616 ^ (i+1)*(if a<b+c then 1 else 0):=by
 rw[WW hi,PD x,PD y,aI,ak];have e:(a+18446744073709551616 -b -c) % 18446744073709551616+b+c=a+18446744073709551616*(if a<b+c then 1 else 0):=by
  split<;>omega
 have aV:=dh (18446744073709551616 ^ i*·) e;simp only[hV] at aV;have cj:∀t:Nat,18446744073709551616 ^ i*(18446744073709551616*t)=18446744073709551616 ^ (i+1)*t:=fun t=>by rw[lz,lY]
 rw[cj] at aV;omega
def awO{v w:Value}{x y:Nat}(U:c5 J v x)(an:c5 J w y)(k2:(a7 x).length<=100000)(qV:(a7 y).length<=100000):Fn (aU Q g0) 141 [v,w] [] J (lA J (x+y)):=by
 have fl:=U;have hF:=an;obtain⟨bc,bb,rfl,aN⟩:=U.ch;obtain⟨bl,bt,rfl,aH⟩:=an.ch;refine Fn.b9 (b1 Tryz.func141) I I fun H=>?_;refine af 0x304284a1ce059 ?_;refine fc [0,1,14] ?_;refine bp ?_;refine' aK.pP 3 (fun(b8:(Value)×(Value)×(Nat)×(Nat))=>match b8 with|(n0,xW,p,q)=>⟨[(0,n0),(1,xW)],[],J,c5 J n0 p/\c5 J xW q/\(a7 q).length<=(a7 p).length/\(a7 p).length<=100000/\p+q=x+y⟩) ?Re ?RB
 case Re=>
  refine If (fun fE=>?_) fun fE=>?_
  ·refine af 0x30210439 ?_;refine iQ ⟨.slice bl (a7 y).length bt,.slice bc (a7 x).length bb,y,x⟩ ?_;exact⟨hF,fl,aa,qV,aa⟩
  ·refine lu ?_;refine iQ ⟨.slice bc (a7 x).length bb,.slice bl (a7 y).length bt,x,y⟩ ?_;exact⟨fl,hF,aa,k2,I⟩
 case RB=>
  rintro⟨n0,xW,p,q⟩ hinv;try simp only at hinv
  obtain⟨gn,du,hle,bK,au⟩:=hinv;have jh:=gn;have k0:=du;obtain⟨fD,fZ,rfl,fH⟩:=gn.ch;obtain⟨ev,dJ,rfl,hS⟩:=du.ch;refine af 0x19439 ?_;refine' W.step I (.of (ti I I I I I (ee I) ?aQ ?ae ?ag fun Qt=>?_));case aQ=>exact cJ
  case ae=>exact cJ
  case ag=>exact cJ
  refine af 0x302 ?_;rw[show(((a7 p).length:Int)+1).toNat=(a7 p).length+1 by omega,zero_num];refine af 0x357c04a1ce059 ?_;refine dV [(23,.int .i64 ((0):Int)),(6,.int .u64 ((0):Int)),(0,_),(1,_),(5,_),(21,_),(22,_)] ?_;refine bp ?_;refine' aK.bK (fun(b8:Nat×Nat×(List Nat))=>match b8 with|(i,c,z)=>⟨[(23,.int .i64 (i:Int)),(6,.int .u64 (c:Int))],[pF .u64 121 Qt z],J,i<=(a7 p).length/\c<=1/\z.length=(a7 p).length+1/\okW z/\cF (z.take i)+18446744073709551616 ^ i*c=cF ((a7 p).take i)+cF ((a7 q).take i),(a7 p).length -i⟩) ⟨0,0,List.replicate ((a7 p).length+1) 0⟩ ?hs ?bn
  case hs=>exact⟨c6 _,by decide,kU,OH,by rw[ku,ku,ku];rfl⟩
  case bn=>
   rintro⟨i,c,z⟩ hinv;try simp only at hinv
   obtain⟨hi,ax,aR,cG,az⟩:=hinv;refine af 0xbe099 ?_;refine If (fun yl=>?_) fun yl=>?_
   ·obtain⟨lB,F4,aln,amV,rfl,gX,eg⟩:=jh.at (v0 aa);obtain⟨a,aI,tQ,hr⟩:=eg i aa;have qN:=aay (xI q) i;refine af 0xc10a10e702ce04249839d5f57 ?_;refine fc [9,31,0,1,5,6,7,8,21,22,23] ?_;refine bp ?_;refine' aK.hp 2 [(9,.int .u64 (((a7 q).getD i 0:Nat):Int))] ?ak5 ?amn;case ak5=>
     refine If (fun yn=>?_) fun yn=>?_
     ·obtain⟨ab,kk,ali,amT,rfl,ao8,Ch⟩:=k0.at (v0 aa);obtain⟨b,ak,AB,_⟩:=Ch i aa;refine af 0x604930439 ?_;refine'⟨⟨_,I,⟨?mE,I,I,I,I,I,I,I,I,I,trivial⟩⟩,iC _,I⟩;case mE=>exact dh some (dh (Value.int .u64) (by rw[vc ak]))
     ·refine lu ?_;refine'⟨⟨_,I,⟨?mE,I,I,I,I,I,I,I,I,I,trivial⟩⟩,iC _,I⟩;case mE=>(exact dh some (dh (Value.int .u64) (by rw[B1 (l:=a7 q) aa];rfl)))
    case amn=>
     refine af 0x2108439 ?_;refine cl (G:=LN ax) (h:=?_);rintro v' m' ah hle ⟨rfl,rfl,rfl⟩;refine af 0x31ce1 ?_;refine' n4 ?hs ?_;case hs=>exact s7 i aa
     refine af 0x3011e702 ?_;refine eS ⟨i+1,(a+(a7 q).getD i 0+c) / 18446744073709551616,z.set i ((a+(a7 q).getD i 0+c) % 18446744073709551616)⟩ ?_;exact⟨aa,aa,by rw[hy];exact aR,F2 cG (lh _ bI),awP aa (vc aI) I az⟩
   ·obtain rfl:i=(a7 p).length:=aa
    refine af 0x304a10e757 ?_;refine' n4 ?hs ?_;case hs=>exact s7 (a7 p).length aa
    refine af 0x738 ?_;refine' W.step I (Exec.call I I I I I I I (a1:=[pF .u64 121 Qt (z.set (a7 p).length c)]) (cB:=[]) (.refl _) trivial (KI (l:=z.set (a7 p).length c) (F2 cG aa) (by rw[hy,aR];exact b2 _) (b2 _) aa) ?_);rintro v' m' ah hle ⟨k,rfl,hk,jj,rfl,rfl⟩;refine af 0x302 ?_;refine aK.k8 I fun a8=>?_;refine af 0x357 ?_;refine b4 ?_;exact⟨a8,I,c5.row (by
      rw[jj,WW aa,az,ft (b2 _),ft aa,nI,nI,au]) (by rw[hy,aR];exact hk) hk (HI aa) (ai.lC _ _ _)⟩
def adK{v w:Value}{x y:Nat}(U:c5 J v x)(an:c5 J w y)(k2:(a7 x).length<=100000)(qV:(a7 y).length<=100000)(h:y<=x):Fn (aU Q g0) 142 [v,w] [] J (lA J (x -y)):=by
 have fl:=U;have hF:=an;obtain⟨bc,bb,rfl,aN⟩:=U.ch;obtain⟨bl,bt,rfl,aH⟩:=an.ch;have gY:(a7 y).length<=(a7 x).length:=um h;refine Fn.b9 (b1 Tryz.func142) I I fun H=>?_;refine af 0xa1ce059 ?_;refine' W.step I (.of (ti I I I I I (ee I) ?aQ ?ae ?ag fun Hg=>?_));case aQ=>exact cJ
 case ae=>exact cJ
 case ag=>exact cJ
 refine af 0x302 ?_;rw[show((a7 x).length:Int).toNat=(a7 x).length by omega,zero_num];refine af 0x357c04a1ce059 ?_;refine dV [(15,.int .i64 ((0):Int)),(6,.int .u64 ((0):Int)),(1,_),(5,_),(13,_),(14,_)] ?_;refine bp ?_;refine' aK.bK (fun(b8:Nat×Nat×(List Nat))=>match b8 with|(i,c,z)=>⟨[(15,.int .i64 (i:Int)),(6,.int .u64 (c:Int))],[pF .u64 121 Hg z],J,i<=(a7 x).length/\c<=1/\z.length=(a7 x).length/\okW z/\cF (z.take i)+cF ((a7 y).take i)=cF ((a7 x).take i)+18446744073709551616 ^ i*c,(a7 x).length -i⟩) ⟨0,0,List.replicate (a7 x).length 0⟩ ?hs ?bn
 case hs=>exact⟨c6 _,by decide,kU,OH,by rw[ku,ku,ku];rfl⟩
 case bn=>
  rintro⟨i,c,z⟩ hinv;try simp only at hinv
  obtain⟨hi,ax,aR,cG,az⟩:=hinv;refine af 0xbe099 ?_;refine If (fun l3=>?_) fun l3=>?_
  ·obtain⟨lB,F4,aln,amV,rfl,gX,eg⟩:=fl.at (v0 aa);obtain⟨a,aI,tQ,hr⟩:=eg i aa;have qN:=aay (xI y) i;refine af 0xc10a10e702ce04249839d5f57 ?_;refine fc [9,23,1,5,6,7,8,13,14,15] ?_;refine bp ?_;refine' aK.hp 2 [(9,.int .u64 (((a7 y).getD i 0:Nat):Int))] ?ak3 ?aml;case ak3=>
    refine If (fun n7=>?_) fun n7=>?_
    ·obtain⟨ab,kk,ali,amT,rfl,ao8,Ch⟩:=hF.at (v0 aa);obtain⟨b,ak,AB,_⟩:=Ch i aa;refine af 0x604930439 ?_;refine'⟨⟨_,I,⟨?mE,I,I,I,I,I,I,I,I,trivial⟩⟩,iC _,I⟩;case mE=>exact dh some (dh (Value.int .u64) (by rw[vc ak]))
    ·refine lu ?_;refine'⟨⟨_,I,⟨?mE,I,I,I,I,I,I,I,I,trivial⟩⟩,iC _,I⟩;case mE=>(exact dh some (dh (Value.int .u64) (by rw[B1 (l:=a7 y) aa];rfl)))
   case aml=>
    refine af 0x2108439 ?_;refine cl (G:=azd ax) (h:=?_);rintro v' m' ah hle ⟨rfl,rfl,rfl⟩;refine af 0x31ce1 ?_;refine' n4 ?hs ?_;case hs=>exact s7 i aa
    refine af 0x3011e702 ?_;refine eS ⟨i+1,(if a<(a7 y).getD i 0+c then 1 else 0),z.set i ((a+18446744073709551616 -(a7 y).getD i 0 -c) % 18446744073709551616)⟩ ?_;exact⟨aa,by split<;>omega,by rw[hy];exact aR,F2 cG (lh _ bI),aul aa hr qN ax (vc aI) I az⟩
  ·obtain rfl:i=(a7 x).length:=aa
   have my:c=0:=by
    have ae:=Gv (Ke (i:=(a7 x).length) cG);rw[eL,aR,Nat.min_self] at ae;rw[ft (l:=a7 x) (b2 _),ft (l:=a7 y) aa,nI,nI] at az;obtain rfl|rfl:c=0\/c=1:=aa
    ·rfl
    ·rw[jr] at az;omega
   refine af 0xe757 ?_;refine' W.step I (Exec.call I I I I I I I (a1:=[pF .u64 121 Hg z]) (cB:=[]) (.refl _) trivial (KI (l:=z) cG aa (b2 _) aa) ?_);rintro v' m' ah hle ⟨k,rfl,hk,jj,rfl,rfl⟩;refine af 0x302 ?_;refine aK.k8 I fun a8=>?_;refine af 0x357 ?_;refine b4 ?_;exact⟨a8,I,c5.row (by
    rw[ft (l:=a7 x) (b2 _),ft (l:=a7 y) aa,nI,nI,my,sj] at az;rw[jj];congr 1;omega) aa hk (HI aa) (ai.lC _ _ _)⟩
end
end
end Go.Opn

/- A part of the proof of SampleParts. -/
import Derived.Test.YtdbhjgpppmkagaaGreatCaz
set_option linter.unusedVariables false
namespace Go.Opn
noncomputable section
structure ek where
 bQ:Int
 many:Int
 fP:Int
structure i' where
 bQ:Int
 level:Nat
 seen:List Int
structure dX where
 l:List Int
 cz:Int
 ns:List cH
 is:List (Int×Int)
 vs:List i'
 a1:List (List (List Int))
open Classical
def eg(l:List Int)(n:Int):Int:=match l with|[]=>0|x::_=>if n<1 then 0 else x % n
def gm(l:List Int)(n:Int):List Int:=match l with|[]=>[]|x::r=>if n<1 then x::r else r
theorem oJ{l:List Int}{n:Int}(h:1<=n):0<=eg l n/\eg l n<n:=by
 cases l with
 |nil=>show 0<=(0:Int)/\(0:Int)<n;omega
 |cons x r=>
  show 0<=(if n<1 then(0:Int) else x % n)/\(if n<1 then(0:Int) else x % n)<n;rw[aq (by omega)];exact⟨Int.emod_nonneg _ (by omega),Int.emod_lt_of_pos _ (by omega)⟩
def nu:Nat->List Int->List Int×List Int
 |0,l=>([],l)
 |n+1,l=>((eg l 7 -3)::(nu n (gm l 7)).1,(nu n (gm l 7)).2)
theorem ag':∀(n:Nat) (l:List Int),(nu n l).1.length=n/\∀w∈(nu n l).1,-3<=w/\w<=3:=by
 intro n;induction n with
 |zero=>intro l;exact⟨rfl,fun w h=>by cases h⟩
 |succ n aG=>
  intro l;obtain⟨aa,ab⟩:=aG (gm l 7);refine⟨by show _+1=_;rw[aa],fun w hw=>?_⟩;rcases ft.1 hw with q|q
  ·have:=oJ (l:=l) (n:=7) (by omega);omega
  ·exact ab w q
def tB(pl:Nat)(a:Nat)(σ:dX):dX:={σ with l:=(nu pl σ.l).2,ns:=σ.ns.set a ⟨3,0,0,[],[],(nu pl σ.l).1⟩}
def ka (v:i'):List i'->Nat->Option Nat
 |[],_=>none
 |w::r,i=>if w=v then some i else ka v r (i+1)
theorem DT{v:i'}:∀{l:List i'} {i k:Nat},ka v l i=some k->i<=k/\l[k -i]?=some v:=by
 intro l;induction l with
 |nil=>intro i k h;cases h
 |cons w r aG=>
  intro i k h;unfold ka at h;split at h
  ·rename_i q;injection h with h;subst h;subst q;simp
  ·obtain⟨aa,ab⟩:=aG h;refine⟨by omega,?_⟩;rw[show k -i=(k -(i+1))+1 by omega,wy];exact ab
def Js(p:ek)(q:Nat):Bool:=decide (p.fP / 2 ^ q % 2=1)
def qq(p:ek)(i:Nat)(q:Nat):Int:=if(q:Int)=p.bQ\/Js p q=true then(i:Int) else -1
def kj(p:ek)(i:Nat)(seen:List (List Int)):List (List Int):=seen.mapIdx fun q s=>s++[qq p i q]
def uB (k:Int)(ns:List cH):Bool:=ns.any fun x=>decide (x.k=2/\x.i=k)
def iK (info bQ:Int)(σ:dX):dX:=
 if bQ<0\/info≠(σ.is.length:Int) -1 then σ
 else if uB info σ.ns=true then σ
 else{σ with is:=σ.is.take info.toNat,vs:=σ.vs.take (σ.vs.length -1)}
def eE (p:ek)(L:Nat)(s:List Int)(σ:dX):dX×Nat:=match ka ⟨p.bQ,L,s⟩ σ.vs 0 with
 |some k=>(σ,k)
 |none=>({σ with l:=gm σ.l 3,vs:=σ.vs++[⟨p.bQ,L,s⟩],is:=σ.is++[(p.bQ,1+eg σ.l 3)]},σ.vs.length)
def kids(rec:List (List Int)->dX->dX)(p:ek)(seen:List (List Int)):Nat->Nat->dX->List Int->List Int->dX×List Int×List Int
 |0,_,σ,af,ws=>(σ,af,ws)
 |k+1,i,σ,af,ws=>
  if p.bQ<0 then kids rec p seen k (i+1) (rec (kj p i seen) {σ with l:=gm σ.l 3}) (af++[(σ.ns.length:Int)]) (ws++[1+eg σ.l 3])
  else kids rec p seen k (i+1) (rec (kj p i seen) σ) (af++[(σ.ns.length:Int)]) ws
def kE(seen:List (List Int))(σ:dX):dX:={σ with cz:=σ.cz -1,ns:=σ.ns++[⟨0,0,0,[],[],[]⟩],a1:=σ.a1++[seen]}
def e9(p:ek)(seen:List (List Int)):List Int:=(seen[p.bQ.toNat]?).getD []
def qQ (k:Nat)(σ:dX):Int:=match σ.is[k]? with|some y=>y.2|none=>0
def lq (most:Int)(pl:Nat):List ek->Nat->List (List Int)->dX->dX
 |[],_,seen,σ=>tB pl σ.ns.length (kE seen σ)
 |p::lv,L,seen,σ=>
  let a:=σ.ns.length
  let Pl:=kE seen σ
  let dp:={Pl with l:=gm Pl.l 8}
  if eg Pl.l 8=1 then tB pl a dp
  else if p.bQ<0 then
   if most<(a:Int)+1+dp.cz+p.many then tB pl a dp
   else
    let r:=kids (lq most pl lv (L+1)) p seen p.many.toNat 0 {dp with cz:=dp.cz+p.many} [] []
    {r.1 with ns:=r.1.ns.set a ⟨1,0,0,r.2.1,r.2.2,[]⟩}
  else
   let f:=eE p L (e9 p seen) dp
   let m:=qQ f.2 f.1
   if most<(a:Int)+1+f.1.cz+m then tB pl a (iK f.2 p.bQ f.1)
   else
    let r:=kids (lq most pl lv (L+1)) p seen m.toNat 0 {f.1 with cz:=f.1.cz+m} [] []
    {r.1 with ns:=r.1.ns.set a ⟨2,p.bQ,f.2,r.2.1,r.2.2,[]⟩}
def zH(pl:Nat)(bI:List ek):Prop:=∀p∈bI,-1<=p.bQ/\p.bQ<pl/\2<=p.many/\p.many<=3
structure rX (pl:Nat) (bI:List ek) (σ:dX) (c:Nat) (x:cH) (eR:List (List Int)) (L:Nat):Prop where
 I:σ.ns[c]?=some x
 t':σ.a1[c]?=some eR
 aM:eR.length=pl
 hle:∀s∈eR,s.length=L
 aH:∀(i:Nat) (d:Int),x.af[i]?=some d->(c:Int)<d/\d<σ.ns.length/\∃P,bI[L]?=some P/\σ.a1[d.toNat]?=some (kj P i eR)
 p':(x.k=3/\x.p=0/\x.i=0/\x.af=[]/\x.ws=[]/\x.gw.length=pl/\∀w∈x.gw,-3<=w/\w<=3)\/
  (x.k=1/\x.p=0/\x.i=0/\x.gw=[]/\x.ws.length=x.af.length/\2<=x.af.length/\x.af.length<=3/\(∀w∈x.ws,1<=w/\w<=3)/\∃P,bI[L]?=some P/\P.bQ<0)\/
  (x.k=2/\x.gw=[]/\x.ws=[]/\1<=x.af.length/\x.af.length<=3/\∃(P:ek) (s:List Int) (k:Nat),bI[L]?=some P/\0<=P.bQ/\x.p=P.bQ/\x.i=(k:Int)/\eR[P.bQ.toNat]?=some s/\ka ⟨P.bQ,L,s⟩ σ.vs 0=some k/\σ.is[k]?=some (P.bQ,(x.af.length:Int)))
structure Ext (a:Nat) (σ e4:dX):Prop where
 ns:∀c,c<a->e4.ns[c]?=σ.ns[c]?
 a1:∀c,c<σ.a1.length->e4.a1[c]?=σ.a1[c]?
 vs:∀k,k<σ.vs.length->e4.vs[k]?=σ.vs[k]?
 is:∀k,k<σ.is.length->e4.is[k]?=σ.is[k]?
 B3:σ.ns.length<=e4.ns.length
 cq:σ.a1.length<=e4.a1.length
 g3:σ.vs.length<=e4.vs.length
 Fa:σ.is.length<=e4.is.length
theorem Ext.trans{a b:Nat}{σ e4 Xk:dX}(h:Ext a σ e4)(jf:Ext b e4 Xk)(nO:a<=b):Ext a σ Xk:=
 ⟨fun c av=>(jf.ns c (by omega)).trans (h.ns c av),fun c av=>(jf.a1 c (by have:=h.cq;omega)).trans (h.a1 c av),fun k aH=>(jf.vs k (by have:=h.g3;omega)).trans (h.vs k aH),fun k aH=>(jf.is k (by have:=h.Fa;omega)).trans (h.is k aH),m9 h.B3 jf.B3,m9 h.cq jf.cq,m9 h.g3 jf.g3,m9 h.Fa jf.Fa⟩
theorem hH{α:Type}{l:List α}{i:Nat}{x:α}(h:l[i]?=some x):i<l.length:=(dv.1 h).1
theorem RO{v:i'}:∀{l l':List i'} {i k:Nat},(∀k,k<l.length->l'[k]?=l[k]?)->ka v l i=some k->ka v l' i=some k:=by
 intro l;induction l with
 |nil=>intro l' i k _ h;cases h
 |cons w r aG=>
  intro l' i k al h;have bt:=al 0 (by simp);cases l' with
  |nil=>simp at bt
  |cons bb b7=>
   simp at bt;subst bt;unfold ka at h ⊢;split at h
   ·rename_i q;rw[aF q];exact h
   ·rename_i q;rw[aq q];exact aG (fun k aH=>by have:=al (k+1) (by simp;omega);simpa using this) h
theorem abb{v:i'}:∀{l:List i'} {i:Nat},ka v l i=none->ka v (l++[v]) i=some (i+l.length):=by
 intro l;induction l with
 |nil=>intro i _;show(if v=v then some i else _)=_;rw[aF rfl];rfl
 |cons w r aG=>
  intro i h;unfold ka at h;split at h
  ·cases h
  ·rename_i q;show(if w=v then some i else ka v (r++[v]) (i+1))=_;rw[aq q,aG h];simp;omega
theorem rX.ext{pl:Nat}{bI:List ek}{σ e4:dX}{c:Nat}{x:cH}{eR:List (List Int)}{L a:Nat}(h:rX pl bI σ c x eR L)(he:Ext a σ e4)(av:c<a\/e4.ns[c]?=σ.ns[c]?):rX pl bI e4 c x eR L:=by
 refine⟨?_,(he.a1 c (hH h.t')).trans h.t',h.aM,h.hle,fun i d aS=>?_,?_⟩
 ·rcases av with av|av
  ·exact(he.ns c av).trans h.I
  ·exact av.trans h.I
 ·obtain⟨aa,ab,P,aK,bh⟩:=h.aH i d aS;exact⟨aa,by have:=he.B3;omega,P,aK,(he.a1 _ (hH bh)).trans bh⟩
 ·rcases h.p' with q|q|⟨aZ,aR,bY,ep,gl,P,s,k,cO,dI,fK,iT,jC,m3,jD⟩
  ·exact .inl q
  ·exact .inr (.inl q)
  ·exact .inr (.inr ⟨aZ,aR,bY,ep,gl,P,s,k,cO,dI,fK,iT,jC,RO he.vs m3,(he.is k (hH jD)).trans jD⟩)
structure jq (most:Int) (L:Nat) (σ:dX):Prop where
 a1:σ.a1.length=σ.ns.length
 is:σ.is.length=σ.vs.length
 lt:∀x∈σ.ns,x.k=2->0<=x.i/\x.i<σ.vs.length
 use:∀(k:Nat) (v:i'),σ.vs[k]?=some v->v.level<L\/∃x∈σ.ns,x.k=2/\x.i=(k:Int)
 ok:∀(k:Nat) (v:i') (y:Int×Int),σ.vs[k]?=some v->σ.is[k]?=some y->y.1=v.bQ/\1<=y.2/\y.2<=3
 sum:(σ.ns.length:Int)+σ.cz<=most
 s5:σ.vs.length<=σ.ns.length
theorem WB{ns B4:List cH}:∀(f:Nat) (p d:Int) (n b5:Nat) (e:List fD),dW ns f p d n=some (b5,e)->(∀c,n<=c->c<b5->B4[c]?=ns[c]?)->dW B4 f p d n=some (b5,e):=by
 intro f;induction f with
 |zero=>intro p d n b5 e h;cases h
 |succ f aG=>
  intro p d n b5 e h al;have ay:=qD _ _ _ _ _ _ h;unfold dW at h ⊢;rw[al n (dH _) ay.1];split at h
  ·cases h
  ·rename_i x I;split at h
   ·cases h
   ·rename_i dr es ab;simp only[b6,da] at h;obtain⟨rfl,rfl⟩:=h;have key:∀{cs:List Int} {m ct:Nat} {e:List fD},gL (dW ns f n (d+1)) cs m=some (ct,e)->n+1<=m->ct<=dr->m<=ns.length->gL (dW B4 f n (d+1)) cs m=some (ct,e):=by
     intro cs;induction cs with
     |nil=>intro m ct e h _ _ _;exact h
     |cons c cs Ng=>
      intro m ct e h hm ai S7;rw[u0] at h ⊢;split at h
      ·cases h
      ·rename_i av;rw[aq av];split at h
       ·cases h
       ·rename_i eM a5 bX;have w':=qD _ _ _ _ _ _ bX;split at h
        ·cases h
        ·rename_i l1 cC cg;simp only[b6,da] at h;obtain⟨rfl,rfl⟩:=h;have RY:=AM (fun a b c q=>qD _ _ _ a b c q) cg w'.2.1;rw[aG _ _ _ _ _ bX (fun c bx bT=>al c (by omega) (by omega))];simp only
         rw[Ng cg (by omega) (by omega) w'.2.1]
    have cP:=(dv.1 I).1;rw[key ab (dH _) (dH _) (by omega)]
end
end Go.Opn
namespace Go.Opn
noncomputable section
theorem Y8{ns B4:List cH}{f:Nat}{p d:Int}:∀{cs:List Int} {m ct:Nat} {e:List fD},gL (dW ns f p d) cs m=some (ct,e)->m<=ns.length->(∀c,m<=c->c<ct->B4[c]?=ns[c]?)->gL (dW B4 f p d) cs m=some (ct,e):=by
 intro cs;induction cs with
 |nil=>intro m ct e h _ _;exact h
 |cons c cs aG=>
  intro m ct e h hm al;rw[u0] at h ⊢;split at h
  ·cases h
  ·rename_i av;rw[aq av];split at h
   ·cases h
   ·rename_i eM a5 bX;have w':=qD _ _ _ _ _ _ bX;split at h
    ·cases h
    ·rename_i l1 cC cg;simp only[b6,da] at h;obtain⟨rfl,rfl⟩:=h;have RY:=AM (fun a b c q=>qD _ _ _ a b c q) cg w'.2.1;rw[WB _ _ _ _ _ _ bX (fun c bx bT=>al c (by omega) (by omega))];simp only
     rw[aG cg w'.2.1 (fun c bx bT=>al c (by omega) bT)]
structure Px (a hr:Nat) (σ:dX) (F:Nat->Nat):Prop where
 at_:∀k,hr<=k->k<σ.vs.length->a<=F k/\F k<σ.ns.length/\(∃x,σ.ns[F k]?=some x/\x.k=2/\x.i=(k:Int))/\∀c x,a<=c->σ.ns[c]?=some x->x.k=2->x.i=(k:Int)->F k<=c
 up:∀k fw,hr<=k->k<fw->fw<σ.vs.length->F k<F fw
structure Ak (most:Int) (pl:Nat) (bI:List ek) (L:Nat) (seen:List (List Int)) (σ e4:dX):Prop where
 ext:Ext σ.ns.length σ e4
 ei:jq most L e4
 cz:e4.cz=σ.cz -1
 lt:σ.ns.length<e4.ns.length
 Qq:e4.a1[σ.ns.length]?=some seen
 oq:∀c,σ.ns.length<=c->c<e4.ns.length->∃x eR bw,rX pl bI e4 c x eR bw
 Wz:∀(f:Nat) (p d:Int),bI.length -L<f->∃es,dW e4.ns f p d σ.ns.length=some (e4.ns.length,es)/\∀e∈es,e.2.1<=d+((bI.length -L:Nat):Int)
 Fv:∀(k:Nat) (v:i'),σ.vs.length<=k->e4.vs[k]?=some v->L<=v.level
 fst:∃F,Px σ.ns.length σ.vs.length e4 F
structure J1 (most:Int) (pl:Nat) (bI:List ek) (L:Nat) (seen:List (List Int)) (P:ek) (i k:Nat) (bo fC:dX) (ds:List Int):Prop where
 ext:Ext bo.ns.length bo fC
 ei:jq most (L+1) fC
 cz:fC.cz=bo.cz -k
 n:ds.length=k
 oq:∀c,bo.ns.length<=c->c<fC.ns.length->∃x eR bw,rX pl bI fC c x eR bw
 ca:∀(f:Nat) (a d:Int),bI.length -(L+1)<f->∃es,gL (dW fC.ns f a d) ds bo.ns.length=some (fC.ns.length,es)/\∀e∈es,e.2.1<=d+((bI.length -(L+1):Nat):Int)
 each:∀(j:Nat) (d:Int),ds[j]?=some d->(bo.ns.length:Int)<=d/\d<fC.ns.length/\fC.a1[d.toNat]?=some (kj P (i+j) seen)
 Fv:∀(k:Nat) (v:i'),bo.vs.length<=k->fC.vs[k]?=some v->L+1<=v.level
 fst:∃F,Px bo.ns.length bo.vs.length fC F
theorem jq.l{most:Int}{L:Nat}{σ:dX}(h:jq most L σ)(l:List Int):jq most L {σ with l:=l}:=⟨h.a1,h.is,h.lt,h.use,h.ok,h.sum,h.s5⟩
theorem Ext.refl(a:Nat)(σ:dX):Ext a σ σ:=⟨fun _ _=>rfl,fun _ _=>rfl,fun _ _=>rfl,fun _ _=>rfl,dH _,dH _,dH _,dH _⟩
theorem zP{P:ek}{i:Nat}{seen:List (List Int)}:(kj P i seen).length=seen.length:=by unfold kj;simp
theorem NL{P:ek}{i L:Nat}{seen:List (List Int)}(h:∀s∈seen,s.length=L):∀s∈kj P i seen,s.length=L+1:=by
 intro s al;unfold kj at al;obtain⟨q,cn,rfl⟩:=List.mem_mapIdx.1 al;rw[er,h _ (As cn)];rfl
theorem T6{most:Int}{pl:Nat}{bI:List ek}{L:Nat}{seen:List (List Int)}{P:ek}{rec:List (List Int)->dX->dX}(h6:seen.length=pl)(iM:∀s∈seen,s.length=L)
 (sD:∀eR σ,jq most (L+1) σ->1<=σ.cz->eR.length=pl->(∀s∈eR,s.length=L+1)->Ak most pl bI (L+1) eR σ (rec eR σ)):
 ∀(k i:Nat) (bo:dX) (af ws:List Int),jq most (L+1) bo->(k:Int)<=bo.cz->∃ds wn,kids rec P seen k i bo af ws=((kids rec P seen k i bo af ws).1,af++ds,ws++wn)/\
  J1 most pl bI L seen P i k bo (kids rec P seen k i bo af ws).1 ds/\(P.bQ<0->wn.length=k/\∀w∈wn,1<=w/\w<=3)/\(0<=P.bQ->wn=[]):=by
 intro k;induction k with
 |zero=>
  intro i bo af ws c0 au;refine⟨[],[],by simp[kids],⟨Ext.refl _ _,c0,by simp[kids],rfl,fun c bx bT=>?_,fun f a d aw=>⟨[],rfl,fun e he=>by cases he⟩,fun j d aS=>by simp at aS,fun k v aa ab=>?_,⟨fun _=>0,⟨fun k aa ab=>?_,fun k fw aa ab aK=>?_⟩⟩⟩,fun _=>⟨rfl,fun w hw=>by cases hw⟩,fun _=>rfl⟩
  ·have bT:c<bo.ns.length:=bT;omega
  ·have:=hH ab;have:k<bo.vs.length:=this;omega
  ·have:k<bo.vs.length:=ab;omega
  ·have:fw<bo.vs.length:=aK;omega
 |succ k aG=>
  intro i bo af ws c0 au
  --sZ first child
  obtain⟨s7,ye,kP,aD,Ty,Tz⟩:∃s7 ye,s7=(if P.bQ<0 then{bo with l:=gm bo.l 3} else bo)/\kids rec P seen (k+1) i bo af ws=kids rec P seen k (i+1) (rec (kj P i seen) s7) (af++[(bo.ns.length:Int)]) (ws++ye)/\(P.bQ<0->ye.length=1/\∀w∈ye,1<=w/\w<=3)/\(0<=P.bQ->ye=[]):=by
   by_cases q:P.bQ<0
   ·refine⟨_,[1+eg bo.l 3],rfl,by rw[aF q];simp only[kids];rw[aF q],fun _=>⟨rfl,fun w hw=>?_⟩,fun dt=>by omega⟩;simp at hw;subst hw;have:=oJ (l:=bo.l) (n:=3) (by omega);omega
   ·exact⟨_,[],rfl,by rw[aq q];simp only[kids];rw[aq q,fb],fun dt=>absurd dt q,fun _=>rfl⟩
  have f1:s7.ns=bo.ns:=by rw[kP];split<;>rfl
  have f2:s7.a1=bo.a1:=by rw[kP];split<;>rfl
  have f3:s7.vs=bo.vs:=by rw[kP];split<;>rfl
  have f4:s7.is=bo.is:=by rw[kP];split<;>rfl
  have f5:s7.cz=bo.cz:=by rw[kP];split<;>rfl
  have aeq:jq most (L+1) s7:=by rw[kP];split;exact c0.l _;exact c0
  have dF:=sD (kj P i seen) s7 aeq (by rw[f5];omega) (by rw[zP];exact h6) (NL iM);generalize rec (kj P i seen) s7=s8 at dF aD;obtain⟨ds,wn,b4,g8,cg,fJ⟩:=aG (i+1) s8 (af++[(bo.ns.length:Int)]) (ws++ye) dF.ei (by rw[dF.cz,f5];omega);generalize TP:(kids rec P seen k (i+1) s8 (af++[(bo.ns.length:Int)]) (ws++ye)).1=fC at b4 g8;have ab2:=dF.lt;rw[f1] at ab2;have am2:=g8.ext.B3;have ab1:Ext bo.ns.length bo s8:=by
   have:=dF.ext;exact⟨fun c av=>by rw[<-f1];exact this.ns c (by rw[f1];exact av),fun c av=>by rw[<-f2];exact this.a1 c (by rw[f2];exact av),fun c av=>by rw[<-f3];exact this.vs c (by rw[f3];exact av),fun c av=>by rw[<-f4];exact this.is c (by rw[f4];exact av),by rw[<-f1];exact this.B3,by rw[<-f2];exact this.cq,by rw[<-f3];exact this.g3,by rw[<-f4];exact this.Fa⟩
  refine⟨(bo.ns.length:Int)::ds,ye++wn,by rw[aD,TP,b4];simp,?_,fun q=>?_,fun q=>by rw[Tz q,fJ q];rfl⟩
  ·rw[aD,TP];obtain⟨Xu,Hx⟩:=dF.fst;obtain⟨Xv,xa⟩:=g8.fst;rw[f1,f3] at Hx;refine⟨ab1.trans g8.ext (by omega),g8.ei,by rw[g8.cz,dF.cz,f5];omega,by simp[g8.n],fun c bx bT=>?_,fun f a d aw=>?_,fun j d aS=>?_,fun fw v aa ab=>?_,⟨fun k=>if k<s8.vs.length then Xu k else Xv k,⟨fun fw aa ab=>?_,fun fw Ix aa ab aK=>?_⟩⟩⟩
   ·by_cases q:c<s8.ns.length
    ·obtain⟨x,eR,bw,ar⟩:=dF.oq c (by rw[f1];exact bx) q;exact⟨x,eR,bw,ar.ext g8.ext (.inl q)⟩
    ·exact g8.oq c (by omega) bT
   ·obtain⟨sc,t1,t2⟩:=dF.Wz f a d aw;rw[f1] at t1;obtain⟨vf,t3,t4⟩:=g8.ca f a d aw;refine⟨sc++vf,?_,fun e he=>?_⟩
    ·rw[u0,aq (by simp),WB _ _ _ _ _ _ t1 (fun c _ bT=>g8.ext.ns c bT)];simp only
     rw[t3]
    ·rcases lL.1 he with q|q
     ·exact t2 e q
     ·exact t4 e q
   ·cases j with
    |zero=>
     simp at aS;subst aS;refine⟨by omega,by omega,?_⟩;rw[ea,s9];have:=dF.Qq;rw[f1] at this;exact(g8.ext.a1 _ (hH this)).trans this
    |succ j=>
     obtain⟨a',bd,bz⟩:=g8.each j d (by simpa using aS);exact⟨by omega,bd,by rw[bz];congr 2;omega⟩
   ·by_cases q:fw<s8.vs.length
    ·exact dF.Fv fw v (by rw[f3];exact aa) ((g8.ext.vs fw q).symm.trans ab)
    ·exact g8.Fv fw v (by omega) ab
   ·by_cases q:fw<s8.vs.length
    ·rw[aF q];obtain⟨dS,ho,⟨x,hp,jA,hS⟩,lh⟩:=Hx.at_ fw aa q;refine⟨dS,by omega,⟨x,(g8.ext.ns _ ho).trans hp,jA,hS⟩,fun c y bx ah oa pH=>?_⟩;by_cases r:c<s8.ns.length
     ·exact lh c y bx ((g8.ext.ns c r).symm.trans ah) oa pH
     ·omega
    ·rw[aq q];obtain⟨dS,ho,hp,lh⟩:=xa.at_ fw (by omega) ab;refine⟨by omega,ho,hp,fun c y bx ah oa pH=>?_⟩;by_cases r:c<s8.ns.length
     ·have ld:=(g8.ext.ns c r).symm.trans ah;have:=dF.ei.lt y (cV ld) oa;omega
     ·exact lh c y (by omega) ah oa pH
   ·by_cases aZ:fw<s8.vs.length
    ·by_cases aR:Ix<s8.vs.length
     ·rw[aF aZ,aF aR];exact Hx.up fw Ix aa ab aR
     ·rw[aF aZ,aq aR];have bl:=(Hx.at_ fw aa aZ).2.1;have bF:=(xa.at_ Ix (by omega) aK).1;omega
    ·rw[aq aZ,aq (by omega)];exact xa.up fw Ix (by omega) ab aK
  ·obtain⟨bl,bF⟩:=Ty q;obtain⟨bE,bS⟩:=cg q;refine⟨by rw[er];omega,fun w hw=>?_⟩;rcases lL.1 hw with r|r
   ·exact bF w r
   ·exact bS w r
end
end Go.Opn
namespace Go.Opn
noncomputable section
abbrev qU:cH:=⟨0,0,0,[],[],[]⟩
def XF(pl:Nat)(bI:List ek)(vs:List i')(is:List (Int×Int))(x:cH)(eR:List (List Int))(L:Nat):Prop:=
 (x.k=3/\x.p=0/\x.i=0/\x.af=[]/\x.ws=[]/\x.gw.length=pl/\∀w∈x.gw,-3<=w/\w<=3)\/
  (x.k=1/\x.p=0/\x.i=0/\x.gw=[]/\x.ws.length=x.af.length/\2<=x.af.length/\x.af.length<=3/\(∀w∈x.ws,1<=w/\w<=3)/\∃P,bI[L]?=some P/\P.bQ<0)\/
  (x.k=2/\x.gw=[]/\x.ws=[]/\1<=x.af.length/\x.af.length<=3/\∃(P:ek) (s:List Int) (k:Nat),bI[L]?=some P/\0<=P.bQ/\x.p=P.bQ/\x.i=(k:Int)/\eR[P.bQ.toNat]?=some s/\ka ⟨P.bQ,L,s⟩ vs 0=some k/\is[k]?=some (P.bQ,(x.af.length:Int)))
theorem y4{α:Type}{l:List α}{x:α}{i:Nat}(h:i<l.length):(l++[x])[i]?=l[i]?:=og h
theorem pd{α:Type}{l:List α}{x:α}:(l++[x])[l.length]?=some x:=by rw[rY (dH _),ta];rfl
theorem aiY{α:Type}{l:List α}{a c:Nat}{x:α}(h:c≠a):(l.set a x)[c]?=l[c]?:=by rw[j1,aq (fun q=>h q.symm)]
theorem FX{α:Type}{l:List α}{a:Nat}{x:α}(h:a<l.length):(l.set a x)[a]?=some x:=by rw[j1,aF rfl,aF h]
theorem mem_set{α:Type}{l:List α}{a:Nat}{x y:α}(h:y∈l.set a x):y=x\/y∈l:=by
 rcases J' h with q|q
 ·exact .inr q
 ·exact .inl q
theorem KA{most:Int}{pl:Nat}{bI:List ek}{L k:Nat}{seen:List (List Int)}{P:ek}{σ bo fC:dX}{x:cH}{ds:List Int}(e1:jq most L σ)(dC:k=0\/bI[L]?=some P)(h6:seen.length=pl)(iM:∀s∈seen,s.length=L)(bB:k=0\/L<bI.length)
 (t1:bo.ns=σ.ns++[qU])(t2:bo.a1=σ.a1++[seen])
 (t3:(bo.vs=σ.vs/\bo.is=σ.is)\/∃v y,bo.vs=σ.vs++[v]/\bo.is=σ.is++[y]/\v.level=L/\x.k=2/\x.i=(σ.vs.length:Int))
 (t4:bo.cz=σ.cz -1+k)(g8:J1 most pl bI L seen P 0 k bo fC ds)(h4:x.af=ds)(hd:x.k=2->0<=x.i/\x.i<bo.vs.length)(oX:XF pl bI fC.vs fC.is x seen L):
 Ak most pl bI L seen σ {fC with ns:=fC.ns.set σ.ns.length x}:=by
 have anZ:bo.ns.length=σ.ns.length+1:=by rw[t1];simp
 have an1:σ.vs.length<=bo.vs.length/\bo.vs.length<=σ.vs.length+1:=by
  rcases t3 with⟨h,_⟩|⟨v,y,h,_⟩
  ·rw[h];omega
  ·rw[h];simp
 have g9:=g8.ext;have df:=g9.B3;have vG:=g9.g3;have aW:σ.ns.length<fC.ns.length:=by omega
 have qg:∀k,k<σ.vs.length->fC.vs[k]?=σ.vs[k]?:=fun k aH=>by
  rw[g9.vs k (by omega)];rcases t3 with⟨h,_⟩|⟨v,y,h,_⟩
  ·rw[h]
  ·rw[h,y4 aH]
 have p':∀k,k<σ.is.length->fC.is[k]?=σ.is[k]?:=fun k aH=>by
  rcases t3 with⟨_,h⟩|⟨v,y,_,h,_⟩
  ·rw[g9.is k (by rw[h];exact aH),h]
  ·rw[g9.is k (by rw[h];simp;omega),h,y4 aH]
 have adw:σ.is.length<=fC.is.length:=by
  have:=g9.Fa;rcases t3 with⟨_,h⟩|⟨v,y,_,h,_⟩
  ·rw[h] at this;exact this
  ·rw[h] at this;simp at this;omega
 have Bs:∀c,c<σ.ns.length->fC.ns[c]?=σ.ns[c]?:=fun c av=>by rw[g9.ns c (by omega),t1,y4 av]
 have Ba:∀c,c<σ.a1.length->fC.a1[c]?=σ.a1[c]?:=fun c av=>by rw[g9.a1 c (by rw[t2];simp;omega),t2,y4 av]
 have acP:fC.ns[σ.ns.length]?=some qU:=by rw[g9.ns _ (by omega),t1,pd]
 have pp:∀c,c≠σ.ns.length->(fC.ns.set σ.ns.length x)[c]?=fC.ns[c]?:=fun c av=>aiY av;have y8:Ext 0 fC {fC with ns:=fC.ns.set σ.ns.length x}:=⟨fun c av=>by omega,fun _ _=>rfl,fun _ _=>rfl,fun _ _=>rfl,by simp,dH _,dH _,dH _⟩;have HW:∀y∈fC.ns,y.k=2->y∈fC.ns.set σ.ns.length x:=fun y ah aH=>by
  obtain⟨c,av⟩:=lM.1 ah;have:c≠σ.ns.length:=fun q=>by
   rw[q,acP] at av;injection av with av;subst av;cases aH
  exact cV ((pp c this).trans av)
 have aeK:x∈fC.ns.set σ.ns.length x:=cV (FX aW);refine⟨⟨fun c av=>by rw[pp c (by omega)];exact Bs c av,Ba,qg,p',by simp;omega,by have:=g9.cq;rw[t2] at this;simp at this;show σ.a1.length<=fC.a1.length;omega,by show _<=fC.vs.length;omega,adw⟩,?_,by show fC.cz=_;rw[g8.cz,t4];omega,by simp;omega,?_,fun c bx bT=>?_,fun f p d aw=>?_,fun k v aa ab=>?_,?_⟩
 ·have c0:=g8.ei;refine⟨by simp;exact c0.a1,c0.is,fun y ah aH=>?_,fun k v ap=>?_,c0.ok,by simp;exact c0.sum,by simp;exact c0.s5⟩
  ·rcases mem_set ah with q|q
   ·subst q;have:=hd aH;show 0<=y.i/\y.i<(fC.vs.length:Int);omega
   ·exact c0.lt y q aH
  ·have ap:fC.vs[k]?=some v:=ap;rcases c0.use k v ap with q|⟨y,oa,pH,Gd⟩
   ·by_cases r:k<σ.vs.length
    ·rcases e1.use k v ((qg k r).symm.trans ap) with cO|⟨y,oa,pH,Gd⟩
     ·exact .inl cO
     ·obtain⟨c,av⟩:=lM.1 oa;have jw:=hH av;exact .inr ⟨y,cV ((pp c (by omega)).trans ((Bs c jw).trans av)),pH,Gd⟩
    ·by_cases dI:k<bo.vs.length
     ·rcases t3 with⟨h,_⟩|⟨w,y,h,_,aK,bh,ff⟩
      ·rw[h] at dI;exact absurd dI r
      ·exact .inr ⟨x,aeK,bh,by rw[ff];congr 1;rw[h] at dI;simp at dI;omega⟩
     ·have:=g8.Fv k v (by omega) ap;omega
   ·exact .inr ⟨y,HW y oa pH,pH,Gd⟩
 ·show fC.a1[σ.ns.length]?=some seen;rw[g9.a1 _ (by rw[t2,er,e1.a1];simp),t2,<-e1.a1,pd]
 ·by_cases q:c=σ.ns.length
  ·subst q;refine⟨x,seen,L,FX aW,?_,h6,iM,fun i d aS=>?_,oX⟩
   ·show fC.a1[σ.ns.length]?=some seen;rw[g9.a1 _ (by rw[t2,er,e1.a1];simp),t2,<-e1.a1,pd]
   ·rw[h4] at aS;obtain⟨a',bd,bz⟩:=g8.each i d aS;have ak:=hH aS;rw[g8.n] at ak;refine⟨by omega,by simp;exact bd,P,?_,by rw[lN] at bz;exact bz⟩;rcases dC with dC|dC
    ·omega
    ·exact dC
  ·obtain⟨y,eR,bw,ar⟩:=g8.oq c (by omega) (by simpa using bT);exact⟨y,eR,bw,ar.ext y8 (.inr (pp c q))⟩
 ·obtain⟨g,rfl⟩:∃g,f=g+1:=⟨f -1,by omega⟩;have gi:∃es,gL (dW fC.ns g σ.ns.length (d+1)) ds bo.ns.length=some (fC.ns.length,es)/\∀e∈es,e.2.1<=d+((bI.length -L:Nat):Int):=by
   rcases bB with bB|bB
   ·have:ds=[]:=qL.1 (by rw[g8.n,bB]);subst this;obtain⟨amO,aa,ab⟩:=g8.ca (bI.length+1) 0 0 (by omega);simp only[gL,b6,da] at aa;exact⟨[],by rw[<-aa.1];rfl,fun e he=>by cases he⟩
   ·obtain⟨es,aa,ab⟩:=g8.ca g (σ.ns.length:Int) (d+1) (by omega);exact⟨es,aa,fun e he=>by have:=ab e he;omega⟩
  obtain⟨es,aa,ab⟩:=gi;refine⟨(p,d,(fC.ns.length:Int) -1)::es,?_,fun e he=>?_⟩
  ·show dW (fC.ns.set σ.ns.length x) (g+1) p d σ.ns.length=some ((fC.ns.set σ.ns.length x).length,_);unfold dW;rw[FX aW];simp only
   rw[h4,show σ.ns.length+1=bo.ns.length by omega,Y8 aa (by omega) (fun c bx bT=>pp c (by omega))];simp
  ·rcases ft.1 he with q|q
   ·subst q;show d<=_;omega
   ·exact ab e q
 ·have ab:fC.vs[k]?=some v:=ab;by_cases dI:k<bo.vs.length
  ·rcases t3 with⟨h,_⟩|⟨w,y,h,_,aK,bh,ff⟩
   ·rw[h] at dI;omega
   ·rw[g9.vs k dI,h] at ab;have:k=σ.vs.length:=by rw[h] at dI;simp at dI;omega
    subst this;rw[pd] at ab;injection ab with ab;subst ab;omega
  ·have:=g8.Fv k v (by omega) ab;omega
 ·obtain⟨F,fz⟩:=g8.fst;refine⟨fun k=>if k<bo.vs.length then σ.ns.length else F k,⟨fun k aa ab=>?_,fun k fw aa ab aK=>?_⟩⟩
  ·have ab:k<fC.vs.length:=ab;by_cases q:k<bo.vs.length
   ·rw[aF q];rcases t3 with⟨h,_⟩|⟨w,y,h,_,aK,bh,ff⟩
    ·rw[h] at q;omega
    ·have:k=σ.vs.length:=by rw[h] at q;simp at q;omega
     subst this;exact⟨dH _,by simp;omega,⟨x,FX aW,bh,ff⟩,fun c z bx _ _ _=>bx⟩
   ·rw[aq q];obtain⟨dS,ho,⟨z,hp,jA,hS⟩,lh⟩:=fz.at_ k (by omega) ab;refine⟨by omega,by simp;exact ho,⟨z,(pp _ (by omega)).trans hp,jA,hS⟩,fun c y bx ah oa pH=>?_⟩;by_cases r:c=σ.ns.length
    ·subst r;have ah:(fC.ns.set σ.ns.length x)[σ.ns.length]?=some y:=ah;rw[FX aW] at ah;injection ah with ah;subst ah
     have:=hd oa;omega
    ·exact lh c y (by omega) ((pp c r).symm.trans ah) oa pH
  ·have aK:fw<fC.vs.length:=aK;by_cases aZ:k<bo.vs.length
   ·by_cases aR:fw<bo.vs.length
    ·omega
    ·rw[aF aZ,aq aR];have:=(fz.at_ fw (by omega) aK).1;omega
   ·rw[aq aZ,aq (by omega)];exact fz.up k fw (by omega) ab aK
end
end Go.Opn

/- A part of the proof of ResumeBytes. -/
import Derived.Test.YtkmfhjilfjecmaaGreatDoorCaz
set_option linter.unusedVariables false
namespace Go.Opn
noncomputable section
structure ep where
 bZ:Int
 many:Int
 fM:Int
structure jI where
 bZ:Int
 level:Nat
 seen:List Int
structure ea where
 l:List Int
 cI:Int
 ns:List cR
 is:List (Int×Int)
 vs:List jI
 bO:List (List (List Int))
open Classical
def ej(l:List Int)(n:Int):Int:=match l with|[]=>0|x::_=>if n<1 then 0 else x % n
def fY(l:List Int)(n:Int):List Int:=match l with|[]=>[]|x::r=>if n<1 then x::r else r
theorem pN{l:List Int}{n:Int}(h:1<=n):0<=ej l n/\ej l n<n:=by
 cases l with
 |nil=>show 0<=(0:Int)/\(0:Int)<n;omega
 |cons x r=>
  show 0<=(if n<1 then(0:Int) else x % n)/\(if n<1 then(0:Int) else x % n)<n;rw[an (by omega)];exact⟨MT _ (by omega),MS _ (by omega)⟩
def ov:Nat->List Int->List Int×List Int
 |0,l=>([],l)
 |n+1,l=>((ej l 7 -3)::(ov n (fY l 7)).1,(ov n (fY l 7)).2)
theorem amq:∀(n:Nat) (l:List Int),(ov n l).1.length=n/\∀w∈(ov n l).1,-3<=w/\w<=3:=by
 intro n;induction n with
 |zero=>intro l;exact⟨rfl,fun w h=>by cases h⟩
 |succ n aI=>
  intro l;obtain⟨aa,ae⟩:=aI (fY l 7);refine⟨by show _+1=_;rw[aa],fun w hw=>?_⟩;rcases e3.1 hw with q|q
  ·have:=pN (l:=l) (n:=7) (by omega);omega
  ·exact ae w q
def vv(pl:Nat)(a:Nat)(σ:ea):ea:={σ with l:=(ov pl σ.l).2,ns:=σ.ns.set a ⟨3,0,0,[],[],(ov pl σ.l).1⟩}
def ku (v:jI):List jI->Nat->Option Nat
 |[],_=>none
 |w::r,i=>if w=v then some i else ku v r (i+1)
theorem GV{v:jI}:∀{l:List jI} {i k:Nat},ku v l i=some k->i<=k/\l[k -i]?=some v:=by
 intro l;induction l with
 |nil=>intro i k h;cases h
 |cons w r aI=>
  intro i k h;unfold ku at h;split at h
  ·rename_i q;injection h with h;subst h;subst q;simp
  ·obtain⟨aa,ae⟩:=aI h;refine⟨by omega,?_⟩;rw[show k -i=(k -(i+1))+1 by omega,yB];exact ae
def Md(p:ep)(q:Nat):Bool:=decide (p.fM / 2 ^ q % 2=1)
def rX(p:ep)(i:Nat)(q:Nat):Int:=if(q:Int)=p.bZ\/Md p q=true then(i:Int) else -1
def kD(p:ep)(i:Nat)(seen:List (List Int)):List (List Int):=seen.mapIdx fun q s=>s++[rX p i q]
def wC (k:Int)(ns:List cR):Bool:=ns.any fun x=>decide (x.k=2/\x.i=k)
def jq (info bZ:Int)(σ:ea):ea:=
 if bZ<0\/info≠(σ.is.length:Int) -1 then σ
 else if wC info σ.ns=true then σ
 else{σ with is:=σ.is.take info.toNat,vs:=σ.vs.take (σ.vs.length -1)}
def eD (p:ep)(L:Nat)(s:List Int)(σ:ea):ea×Nat:=match ku ⟨p.bZ,L,s⟩ σ.vs 0 with
 |some k=>(σ,k)
 |none=>({σ with l:=fY σ.l 3,vs:=σ.vs++[⟨p.bZ,L,s⟩],is:=σ.is++[(p.bZ,1+ej σ.l 3)]},σ.vs.length)
def kids(rec:List (List Int)->ea->ea)(p:ep)(seen:List (List Int)):Nat->Nat->ea->List Int->List Int->ea×List Int×List Int
 |0,_,σ,ak,ws=>(σ,ak,ws)
 |k+1,i,σ,ak,ws=>
  if p.bZ<0 then kids rec p seen k (i+1) (rec (kD p i seen) {σ with l:=fY σ.l 3}) (ak++[(σ.ns.length:Int)]) (ws++[1+ej σ.l 3])
  else kids rec p seen k (i+1) (rec (kD p i seen) σ) (ak++[(σ.ns.length:Int)]) ws
def kV(seen:List (List Int))(σ:ea):ea:={σ with cI:=σ.cI -1,ns:=σ.ns++[⟨0,0,0,[],[],[]⟩],bO:=σ.bO++[seen]}
def fb(p:ep)(seen:List (List Int)):List Int:=(seen[p.bZ.toNat]?).getD []
def sj (k:Nat)(σ:ea):Int:=match σ.is[k]? with|some y=>y.2|none=>0
def l4 (most:Int)(pl:Nat):List ep->Nat->List (List Int)->ea->ea
 |[],_,seen,σ=>vv pl σ.ns.length (kV seen σ)
 |p::lv,L,seen,σ=>
  let a:=σ.ns.length
  let Se:=kV seen σ
  let ff:={Se with l:=fY Se.l 8}
  if ej Se.l 8=1 then vv pl a ff
  else if p.bZ<0 then
   if most<(a:Int)+1+ff.cI+p.many then vv pl a ff
   else
    let r:=kids (l4 most pl lv (L+1)) p seen p.many.toNat 0 {ff with cI:=ff.cI+p.many} [] []
    {r.1 with ns:=r.1.ns.set a ⟨1,0,0,r.2.1,r.2.2,[]⟩}
  else
   let f:=eD p L (fb p seen) ff
   let m:=sj f.2 f.1
   if most<(a:Int)+1+f.1.cI+m then vv pl a (jq f.2 p.bZ f.1)
   else
    let r:=kids (l4 most pl lv (L+1)) p seen m.toNat 0 {f.1 with cI:=f.1.cI+m} [] []
    {r.1 with ns:=r.1.ns.set a ⟨2,p.bZ,f.2,r.2.1,r.2.2,[]⟩}
def BY(pl:Nat)(bU:List ep):Prop:=∀p∈bU,-1<=p.bZ/\p.bZ<pl/\2<=p.many/\p.many<=3
structure tj (pl:Nat) (bU:List ep) (σ:ea) (c:Nat) (x:cR) (dQ:List (List Int)) (L:Nat):Prop where
 U:σ.ns[c]?=some x
 kR:σ.bO[c]?=some dQ
 aP:dQ.length=pl
 hle:∀s∈dQ,s.length=L
 aO:∀(i:Nat) (d:Int),x.ak[i]?=some d->(c:Int)<d/\d<σ.ns.length/\∃P,bU[L]?=some P/\σ.bO[d.toNat]?=some (kD P i dQ)
 rG:(x.k=3/\x.p=0/\x.i=0/\x.ak=[]/\x.ws=[]/\x.fF.length=pl/\∀w∈x.fF,-3<=w/\w<=3)\/
  (x.k=1/\x.p=0/\x.i=0/\x.fF=[]/\x.ws.length=x.ak.length/\2<=x.ak.length/\x.ak.length<=3/\(∀w∈x.ws,1<=w/\w<=3)/\∃P,bU[L]?=some P/\P.bZ<0)\/
  (x.k=2/\x.fF=[]/\x.ws=[]/\1<=x.ak.length/\x.ak.length<=3/\∃(P:ep) (s:List Int) (k:Nat),bU[L]?=some P/\0<=P.bZ/\x.p=P.bZ/\x.i=(k:Int)/\dQ[P.bZ.toNat]?=some s/\ku ⟨P.bZ,L,s⟩ σ.vs 0=some k/\σ.is[k]?=some (P.bZ,(x.ak.length:Int)))
structure Ext (a:Nat) (σ j7:ea):Prop where
 ns:∀c,c<a->j7.ns[c]?=σ.ns[c]?
 bO:∀c,c<σ.bO.length->j7.bO[c]?=σ.bO[c]?
 vs:∀k,k<σ.vs.length->j7.vs[k]?=σ.vs[k]?
 is:∀k,k<σ.is.length->j7.is[k]?=σ.is[k]?
 EP:σ.ns.length<=j7.ns.length
 cj:σ.bO.length<=j7.bO.length
 gY:σ.vs.length<=j7.vs.length
 Ih:σ.is.length<=j7.is.length
theorem Ext.trans{a b:Nat}{σ j7 aaK:ea}(h:Ext a σ j7)(oV:Ext b j7 aaK)(nb:a<=b):Ext a σ aaK:=
 ⟨fun c aC=>(oV.ns c (by omega)).trans (h.ns c aC),fun c aC=>(oV.bO c (by have:=h.cj;omega)).trans (h.bO c aC),fun k aO=>(oV.vs k (by have:=h.gY;omega)).trans (h.vs k aO),fun k aO=>(oV.is k (by have:=h.Ih;omega)).trans (h.is k aO),p7 h.EP oV.EP,p7 h.cj oV.cj,p7 h.gY oV.gY,p7 h.Ih oV.Ih⟩
theorem eU{α:Type}{l:List α}{i:Nat}{x:α}(h:l[i]?=some x):i<l.length:=(dY.1 h).1
theorem UZ{v:jI}:∀{l l':List jI} {i k:Nat},(∀k,k<l.length->l'[k]?=l[k]?)->ku v l i=some k->ku v l' i=some k:=by
 intro l;induction l with
 |nil=>intro l' i k _ h;cases h
 |cons w r aI=>
  intro l' i k hs h;have bw:=hs 0 (by simp);cases l' with
  |nil=>simp at bw
  |cons br dx=>
   simp at bw;subst bw;unfold ku at h ⊢;split at h
   ·rename_i q;rw[aE q];exact h
   ·rename_i q;rw[an q];exact aI (fun k aO=>by have:=hs (k+1) (by simp;omega);simpa using this) h
theorem afj{v:jI}:∀{l:List jI} {i:Nat},ku v l i=none->ku v (l++[v]) i=some (i+l.length):=by
 intro l;induction l with
 |nil=>intro i _;show(if v=v then some i else _)=_;rw[aE rfl];rfl
 |cons w r aI=>
  intro i h;unfold ku at h;split at h
  ·cases h
  ·rename_i q;show(if w=v then some i else ku v (r++[v]) (i+1))=_;rw[an q,aI h];simp;omega
theorem tj.ext{pl:Nat}{bU:List ep}{σ j7:ea}{c:Nat}{x:cR}{dQ:List (List Int)}{L a:Nat}(h:tj pl bU σ c x dQ L)(he:Ext a σ j7)(aC:c<a\/j7.ns[c]?=σ.ns[c]?):tj pl bU j7 c x dQ L:=by
 refine⟨?_,(he.bO c (eU h.kR)).trans h.kR,h.aP,h.hle,fun i d aV=>?_,?_⟩
 ·rcases aC with aC|aC
  ·exact(he.ns c aC).trans h.U
  ·exact aC.trans h.U
 ·obtain⟨aa,ae,P,aF,bo⟩:=h.aO i d aV;exact⟨aa,by have:=he.EP;omega,P,aF,(he.bO _ (eU bo)).trans bo⟩
 ·rcases h.rG with q|q|⟨bb,a7,b8,fl,jb,P,s,k,cO,ed,gr,iG,mK,qI,mn⟩
  ·exact .inl q
  ·exact .inr (.inl q)
  ·exact .inr (.inr ⟨bb,a7,b8,fl,jb,P,s,k,cO,ed,gr,iG,mK,UZ he.vs qI,(he.is k (eU mn)).trans mn⟩)
structure jY (most:Int) (L:Nat) (σ:ea):Prop where
 bO:σ.bO.length=σ.ns.length
 is:σ.is.length=σ.vs.length
 lt:∀x∈σ.ns,x.k=2->0<=x.i/\x.i<σ.vs.length
 use:∀(k:Nat) (v:jI),σ.vs[k]?=some v->v.level<L\/∃x∈σ.ns,x.k=2/\x.i=(k:Int)
 ok:∀(k:Nat) (v:jI) (y:Int×Int),σ.vs[k]?=some v->σ.is[k]?=some y->y.1=v.bZ/\1<=y.2/\y.2<=3
 sum:(σ.ns.length:Int)+σ.cI<=most
 uP:σ.vs.length<=σ.ns.length
theorem ZX{ns ET:List cR}:∀(f:Nat) (p d:Int) (n bX:Nat) (e:List gu),dN ns f p d n=some (bX,e)->(∀c,n<=c->c<bX->ET[c]?=ns[c]?)->dN ET f p d n=some (bX,e):=by
 intro f;induction f with
 |zero=>intro p d n bX e h;cases h
 |succ f aI=>
  intro p d n bX e h hs;have av:=qP _ _ _ _ _ _ h;unfold dN at h ⊢;rw[hs n (cW _) av.1];split at h
  ·cases h
  ·rename_i x U;split at h
   ·cases h
   ·rename_i de es ae;simp only[cp,dB] at h;obtain⟨rfl,rfl⟩:=h;have key:∀{cs:List Int} {m m1:Nat} {e:List gu},hk (dN ns f n (d+1)) cs m=some (m1,e)->n+1<=m->m1<=de->m<=ns.length->hk (dN ET f n (d+1)) cs m=some (m1,e):=by
     intro cs;induction cs with
     |nil=>intro m m1 e h _ _ _;exact h
     |cons c cs Qq=>
      intro m m1 e h hm ap PG;rw[w9] at h ⊢;split at h
      ·cases h
      ·rename_i aC;rw[an aC];split at h
       ·cases h
       ·rename_i m2 bk g2;have ze:=qP _ _ _ _ _ _ g2;split at h
        ·cases h
        ·rename_i m3 cG g3;simp only[cp,dB] at h;obtain⟨rfl,rfl⟩:=h;have U7:=AQ (fun a b c q=>qP _ _ _ a b c q) g3 ze.2.1;rw[aI _ _ _ _ _ g2 (fun c c1 c2=>hs c (by omega) (by omega))];simp only
         rw[Qq g3 (by omega) (by omega) ze.2.1]
    have cV:=(dY.1 U).1;rw[key ae (cW _) (cW _) (by omega)]
end
end Go.Opn
namespace Go.Opn
noncomputable section
theorem acP{ns ET:List cR}{f:Nat}{p d:Int}:∀{cs:List Int} {m m1:Nat} {e:List gu},hk (dN ns f p d) cs m=some (m1,e)->m<=ns.length->(∀c,m<=c->c<m1->ET[c]?=ns[c]?)->hk (dN ET f p d) cs m=some (m1,e):=by
 intro cs;induction cs with
 |nil=>intro m m1 e h _ _;exact h
 |cons c cs aI=>
  intro m m1 e h hm hs;rw[w9] at h ⊢;split at h
  ·cases h
  ·rename_i aC;rw[an aC];split at h
   ·cases h
   ·rename_i m2 bk g2;have ze:=qP _ _ _ _ _ _ g2;split at h
    ·cases h
    ·rename_i m3 cG g3;simp only[cp,dB] at h;obtain⟨rfl,rfl⟩:=h;have U7:=AQ (fun a b c q=>qP _ _ _ a b c q) g3 ze.2.1;rw[ZX _ _ _ _ _ _ g2 (fun c c1 c2=>hs c (by omega) (by omega))];simp only
     rw[aI g3 ze.2.1 (fun c c1 c2=>hs c (by omega) c2)]
structure Sr (a v0:Nat) (σ:ea) (F:Nat->Nat):Prop where
 at_:∀k,v0<=k->k<σ.vs.length->a<=F k/\F k<σ.ns.length/\(∃x,σ.ns[F k]?=some x/\x.k=2/\x.i=(k:Int))/\∀c x,a<=c->σ.ns[c]?=some x->x.k=2->x.i=(k:Int)->F k<=c
 up:∀k ft,v0<=k->k<ft->ft<σ.vs.length->F k<F ft
structure CV (most:Int) (pl:Nat) (bU:List ep) (L:Nat) (seen:List (List Int)) (σ j7:ea):Prop where
 ext:Ext σ.ns.length σ j7
 gD:jY most L j7
 cI:j7.cI=σ.cI -1
 lt:σ.ns.length<j7.ns.length
 Td:j7.bO[σ.ns.length]?=some seen
 px:∀c,σ.ns.length<=c->c<j7.ns.length->∃x dQ bN,tj pl bU j7 c x dQ bN
 ZV:∀(f:Nat) (p d:Int),bU.length -L<f->∃es,dN j7.ns f p d σ.ns.length=some (j7.ns.length,es)/\∀e∈es,e.2.1<=d+((bU.length -L:Nat):Int)
 IB:∀(k:Nat) (v:jI),σ.vs.length<=k->j7.vs[k]?=some v->L<=v.level
 fst:∃F,Sr σ.ns.length σ.vs.length j7 F
structure MW (most:Int) (pl:Nat) (bU:List ep) (L:Nat) (seen:List (List Int)) (P:ep) (i k:Nat) (bG fC:ea) (ds:List Int):Prop where
 ext:Ext bG.ns.length bG fC
 gD:jY most (L+1) fC
 cI:fC.cI=bG.cI -k
 n:ds.length=k
 px:∀c,bG.ns.length<=c->c<fC.ns.length->∃x dQ bN,tj pl bU fC c x dQ bN
 bK:∀(f:Nat) (a d:Int),bU.length -(L+1)<f->∃es,hk (dN fC.ns f a d) ds bG.ns.length=some (fC.ns.length,es)/\∀e∈es,e.2.1<=d+((bU.length -(L+1):Nat):Int)
 each:∀(j:Nat) (d:Int),ds[j]?=some d->(bG.ns.length:Int)<=d/\d<fC.ns.length/\fC.bO[d.toNat]?=some (kD P (i+j) seen)
 IB:∀(k:Nat) (v:jI),bG.vs.length<=k->fC.vs[k]?=some v->L+1<=v.level
 fst:∃F,Sr bG.ns.length bG.vs.length fC F
theorem jY.l{most:Int}{L:Nat}{σ:ea}(h:jY most L σ)(l:List Int):jY most L {σ with l:=l}:=⟨h.bO,h.is,h.lt,h.use,h.ok,h.sum,h.uP⟩
theorem Ext.refl(a:Nat)(σ:ea):Ext a σ σ:=⟨fun _ _=>rfl,fun _ _=>rfl,fun _ _=>rfl,fun _ _=>rfl,cW _,cW _,cW _,cW _⟩
theorem B'{P:ep}{i:Nat}{seen:List (List Int)}:(kD P i seen).length=seen.length:=by unfold kD;simp
theorem QV{P:ep}{i L:Nat}{seen:List (List Int)}(h:∀s∈seen,s.length=L):∀s∈kD P i seen,s.length=L+1:=by
 intro s hs;unfold kD at hs;obtain⟨q,c8,rfl⟩:=List.mem_mapIdx.1 hs;rw[dP,h _ (JG c8)];rfl
theorem Xo{most:Int}{pl:Nat}{bU:List ep}{L:Nat}{seen:List (List Int)}{P:ep}{rec:List (List Int)->ea->ea}(ig:seen.length=pl)(jN:∀s∈seen,s.length=L)
 (Ep:∀dQ σ,jY most (L+1) σ->1<=σ.cI->dQ.length=pl->(∀s∈dQ,s.length=L+1)->CV most pl bU (L+1) dQ σ (rec dQ σ)):
 ∀(k i:Nat) (bG:ea) (ak ws:List Int),jY most (L+1) bG->(k:Int)<=bG.cI->∃ds wn,kids rec P seen k i bG ak ws=((kids rec P seen k i bG ak ws).1,ak++ds,ws++wn)/\
  MW most pl bU L seen P i k bG (kids rec P seen k i bG ak ws).1 ds/\(P.bZ<0->wn.length=k/\∀w∈wn,1<=w/\w<=3)/\(0<=P.bZ->wn=[]):=by
 intro k;induction k with
 |zero=>
  intro i bG ak ws dw au;refine⟨[],[],by simp[kids],⟨Ext.refl _ _,dw,by simp[kids],rfl,fun c c1 c2=>?_,fun f a d aD=>⟨[],rfl,fun e he=>by cases he⟩,fun j d aV=>by simp at aV,fun k v aa ae=>?_,⟨fun _=>0,⟨fun k aa ae=>?_,fun k ft aa ae aF=>?_⟩⟩⟩,fun _=>⟨rfl,fun w hw=>by cases hw⟩,fun _=>rfl⟩
  ·have c2:c<bG.ns.length:=c2;omega
  ·have:=eU ae;have:k<bG.vs.length:=this;omega
  ·have:k<bG.vs.length:=ae;omega
  ·have:ft<bG.vs.length:=aF;omega
 |succ k aI=>
  intro i bG ak ws dw au
  --Fi first child
  obtain⟨uT,Ah,iL,aL,nP,Ew⟩:∃uT Ah,uT=(if P.bZ<0 then{bG with l:=fY bG.l 3} else bG)/\kids rec P seen (k+1) i bG ak ws=kids rec P seen k (i+1) (rec (kD P i seen) uT) (ak++[(bG.ns.length:Int)]) (ws++Ah)/\(P.bZ<0->Ah.length=1/\∀w∈Ah,1<=w/\w<=3)/\(0<=P.bZ->Ah=[]):=by
   by_cases q:P.bZ<0
   ·refine⟨_,[1+ej bG.l 3],rfl,by rw[aE q];simp only[kids];rw[aE q],fun _=>⟨rfl,fun w hw=>?_⟩,fun du=>by omega⟩;simp at hw;subst hw;have:=pN (l:=bG.l) (n:=3) (by omega);omega
   ·exact⟨_,[],rfl,by rw[an q];simp only[kids];rw[an q,gj],fun du=>absurd du q,fun _=>rfl⟩
  have f1:uT.ns=bG.ns:=by rw[iL];split<;>rfl
  have f2:uT.bO=bG.bO:=by rw[iL];split<;>rfl
  have f3:uT.vs=bG.vs:=by rw[iL];split<;>rfl
  have f4:uT.is=bG.is:=by rw[iL];split<;>rfl
  have f5:uT.cI=bG.cI:=by rw[iL];split<;>rfl
  have ajR:jY most (L+1) uT:=by rw[iL];split;exact dw.l _;exact dw
  have dd:=Ep (kD P i seen) uT ajR (by rw[f5];omega) (by rw[B'];exact ig) (QV jN);generalize rec (kD P i seen) uT=uU at dd aL;obtain⟨ds,wn,g1,hc,g3,g4⟩:=aI (i+1) uU (ak++[(bG.ns.length:Int)]) (ws++Ah) dd.gD (by rw[dd.cI,f5];omega);generalize W7:(kids rec P seen k (i+1) uU (ak++[(bG.ns.length:Int)]) (ws++Ah)).1=fC at g1 hc;have Vn:=dd.lt;rw[f1] at Vn;have asK:=hc.ext.EP;have agX:Ext bG.ns.length bG uU:=by
   have:=dd.ext;exact⟨fun c aC=>by rw[<-f1];exact this.ns c (by rw[f1];exact aC),fun c aC=>by rw[<-f2];exact this.bO c (by rw[f2];exact aC),fun c aC=>by rw[<-f3];exact this.vs c (by rw[f3];exact aC),fun c aC=>by rw[<-f4];exact this.is c (by rw[f4];exact aC),by rw[<-f1];exact this.EP,by rw[<-f2];exact this.cj,by rw[<-f3];exact this.gY,by rw[<-f4];exact this.Ih⟩
  refine⟨(bG.ns.length:Int)::ds,Ah++wn,by rw[aL,W7,g1];simp,?_,fun q=>?_,fun q=>by rw[Ew q,g4 q];rfl⟩
  ·rw[aL,W7];obtain⟨aaV,KE⟩:=dd.fst;obtain⟨aaW,Oy⟩:=hc.fst;rw[f1,f3] at KE;refine⟨agX.trans hc.ext (by omega),hc.gD,by rw[hc.cI,dd.cI,f5];omega,by simp[hc.n],fun c c1 c2=>?_,fun f a d aD=>?_,fun j d aV=>?_,fun ft v aa ae=>?_,⟨fun k=>if k<uU.vs.length then aaV k else aaW k,⟨fun ft aa ae=>?_,fun ft Lr aa ae aF=>?_⟩⟩⟩
   ·by_cases q:c<uU.ns.length
    ·obtain⟨x,dQ,bN,aq⟩:=dd.px c (by rw[f1];exact c1) q;exact⟨x,dQ,bN,aq.ext hc.ext (.inl q)⟩
    ·exact hc.px c (by omega) c2
   ·obtain⟨aeF,t1,t2⟩:=dd.ZV f a d aD;rw[f1] at t1;obtain⟨GJ,t3,t4⟩:=hc.bK f a d aD;refine⟨aeF++GJ,?_,fun e he=>?_⟩
    ·rw[w9,an (by simp),ZX _ _ _ _ _ _ t1 (fun c _ c2=>hc.ext.ns c c2)];simp only
     rw[t3]
    ·rcases ko.1 he with q|q
     ·exact t2 e q
     ·exact t4 e q
   ·cases j with
    |zero=>
     simp at aV;subst aV;refine⟨by omega,by omega,?_⟩;rw[cx,tn];have:=dd.Td;rw[f1] at this;exact(hc.ext.bO _ (eU this)).trans this
    |succ j=>
     obtain⟨bl,bp,bQ⟩:=hc.each j d (by simpa using aV);exact⟨by omega,bp,by rw[bQ];congr 2;omega⟩
   ·by_cases q:ft<uU.vs.length
    ·exact dd.IB ft v (by rw[f3];exact aa) ((hc.ext.vs ft q).symm.trans ae)
    ·exact hc.IB ft v (by omega) ae
   ·by_cases q:ft<uU.vs.length
    ·rw[aE q];obtain⟨dH,hP,⟨x,ij,ki,lr⟩,nS⟩:=KE.at_ ft aa q;refine⟨dH,by omega,⟨x,(hc.ext.ns _ hP).trans ij,ki,lr⟩,fun c y c1 ai jU jD=>?_⟩;by_cases r:c<uU.ns.length
     ·exact nS c y c1 ((hc.ext.ns c r).symm.trans ai) jU jD
     ·omega
    ·rw[an q];obtain⟨dH,hP,ij,nS⟩:=Oy.at_ ft (by omega) ae;refine⟨by omega,hP,ij,fun c y c1 ai jU jD=>?_⟩;by_cases r:c<uU.ns.length
     ·have hd:=(hc.ext.ns c r).symm.trans ai;have:=dd.gD.lt y (cb hd) jU;omega
     ·exact nS c y (by omega) ai jU jD
   ·by_cases bb:ft<uU.vs.length
    ·by_cases a7:Lr<uU.vs.length
     ·rw[aE bb,aE a7];exact KE.up ft Lr aa ae a7
     ·rw[aE bb,an a7];have bm:=(KE.at_ ft aa bb).2.1;have a2:=(Oy.at_ Lr (by omega) aF).1;omega
    ·rw[an bb,an (by omega)];exact Oy.up ft Lr (by omega) ae aF
  ·obtain⟨bm,a2⟩:=nP q;obtain⟨b1,b2⟩:=g3 q;refine⟨by rw[dP];omega,fun w hw=>?_⟩;rcases ko.1 hw with r|r
   ·exact a2 w r
   ·exact b2 w r
end
end Go.Opn
namespace Go.Opn
noncomputable section
abbrev sn:cR:=⟨0,0,0,[],[],[]⟩
def aa0(pl:Nat)(bU:List ep)(vs:List jI)(is:List (Int×Int))(x:cR)(dQ:List (List Int))(L:Nat):Prop:=
 (x.k=3/\x.p=0/\x.i=0/\x.ak=[]/\x.ws=[]/\x.fF.length=pl/\∀w∈x.fF,-3<=w/\w<=3)\/
  (x.k=1/\x.p=0/\x.i=0/\x.fF=[]/\x.ws.length=x.ak.length/\2<=x.ak.length/\x.ak.length<=3/\(∀w∈x.ws,1<=w/\w<=3)/\∃P,bU[L]?=some P/\P.bZ<0)\/
  (x.k=2/\x.fF=[]/\x.ws=[]/\1<=x.ak.length/\x.ak.length<=3/\∃(P:ep) (s:List Int) (k:Nat),bU[L]?=some P/\0<=P.bZ/\x.p=P.bZ/\x.i=(k:Int)/\dQ[P.bZ.toNat]?=some s/\ku ⟨P.bZ,L,s⟩ vs 0=some k/\is[k]?=some (P.bZ,(x.ak.length:Int)))
theorem A5{α:Type}{l:List α}{x:α}{i:Nat}(h:i<l.length):(l++[x])[i]?=l[i]?:=k1 h
theorem qh{α:Type}{l:List α}{x:α}:(l++[x])[l.length]?=some x:=by rw[pk (cW _),sf];rfl
theorem an9{α:Type}{l:List α}{a c:Nat}{x:α}(h:c≠a):(l.set a x)[c]?=l[c]?:=by rw[kJ,an (fun q=>h q.symm)]
theorem I5{α:Type}{l:List α}{a:Nat}{x:α}(h:a<l.length):(l.set a x)[a]?=some x:=by rw[kJ,aE rfl,aE h]
theorem mem_set{α:Type}{l:List α}{a:Nat}{x y:α}(h:y∈l.set a x):y=x\/y∈l:=by
 rcases Ay h with q|q
 ·exact .inr q
 ·exact .inl q
theorem Nh{most:Int}{pl:Nat}{bU:List ep}{L k:Nat}{seen:List (List Int)}{P:ep}{σ bG fC:ea}{x:cR}{ds:List Int}(e6:jY most L σ)(dt:k=0\/bU[L]?=some P)(ig:seen.length=pl)(jN:∀s∈seen,s.length=L)(bS:k=0\/L<bU.length)
 (t1:bG.ns=σ.ns++[sn])(t2:bG.bO=σ.bO++[seen])
 (t3:(bG.vs=σ.vs/\bG.is=σ.is)\/∃v y,bG.vs=σ.vs++[v]/\bG.is=σ.is++[y]/\v.level=L/\x.k=2/\x.i=(σ.vs.length:Int))
 (t4:bG.cI=σ.cI -1+k)(hc:MW most pl bU L seen P 0 k bG fC ds)(gF:x.ak=ds)(iP:x.k=2->0<=x.i/\x.i<bG.vs.length)(uR:aa0 pl bU fC.vs fC.is x seen L):
 CV most pl bU L seen σ {fC with ns:=fC.ns.set σ.ns.length x}:=by
 have atW:bG.ns.length=σ.ns.length+1:=by rw[t1];simp
 have atY:σ.vs.length<=bG.vs.length/\bG.vs.length<=σ.vs.length+1:=by
  rcases t3 with⟨h,_⟩|⟨v,y,h,_⟩
  ·rw[h];omega
  ·rw[h];simp
 have hN:=hc.ext;have cr:=hN.EP;have rQ:=hN.gY;have a1:σ.ns.length<fC.ns.length:=by omega
 have H3:∀k,k<σ.vs.length->fC.vs[k]?=σ.vs[k]?:=fun k aO=>by
  rw[hN.vs k (by omega)];rcases t3 with⟨h,_⟩|⟨v,y,h,_⟩
  ·rw[h]
  ·rw[h,A5 aO]
 have rG:∀k,k<σ.is.length->fC.is[k]?=σ.is[k]?:=fun k aO=>by
  rcases t3 with⟨_,h⟩|⟨v,y,_,h,_⟩
  ·rw[hN.is k (by rw[h];exact aO),h]
  ·rw[hN.is k (by rw[h];simp;omega),h,A5 aO]
 have aix:σ.is.length<=fC.is.length:=by
  have:=hN.Ih;rcases t3 with⟨_,h⟩|⟨v,y,_,h,_⟩
  ·rw[h] at this;exact this
  ·rw[h] at this;simp at this;omega
 have BA:∀c,c<σ.ns.length->fC.ns[c]?=σ.ns[c]?:=fun c aC=>by rw[hN.ns c (by omega),t1,A5 aC]
 have D6:∀c,c<σ.bO.length->fC.bO[c]?=σ.bO[c]?:=fun c aC=>by rw[hN.bO c (by rw[t2];simp;omega),t2,A5 aC]
 have ahC:fC.ns[σ.ns.length]?=some sn:=by rw[hN.ns _ (by omega),t1,qh]
 have lR:∀c,c≠σ.ns.length->(fC.ns.set σ.ns.length x)[c]?=fC.ns[c]?:=fun c aC=>an9 aC;have ix:Ext 0 fC {fC with ns:=fC.ns.set σ.ns.length x}:=⟨fun c aC=>by omega,fun _ _=>rfl,fun _ _=>rfl,fun _ _=>rfl,by simp,cW _,cW _,cW _⟩;have KX:∀y∈fC.ns,y.k=2->y∈fC.ns.set σ.ns.length x:=fun y ai aO=>by
  obtain⟨c,aC⟩:=kp.1 ai;have:c≠σ.ns.length:=fun q=>by
   rw[q,ahC] at aC;injection aC with aC;subst aC;cases aO
  exact cb ((lR c this).trans aC)
 have aj8:x∈fC.ns.set σ.ns.length x:=cb (I5 a1);refine⟨⟨fun c aC=>by rw[lR c (by omega)];exact BA c aC,D6,H3,rG,by simp;omega,by have:=hN.cj;rw[t2] at this;simp at this;show σ.bO.length<=fC.bO.length;omega,by show _<=fC.vs.length;omega,aix⟩,?_,by show fC.cI=_;rw[hc.cI,t4];omega,by simp;omega,?_,fun c c1 c2=>?_,fun f p d aD=>?_,fun k v aa ae=>?_,?_⟩
 ·have dw:=hc.gD;refine⟨by simp;exact dw.bO,dw.is,fun y ai aO=>?_,fun k v ay=>?_,dw.ok,by simp;exact dw.sum,by simp;exact dw.uP⟩
  ·rcases mem_set ai with q|q
   ·subst q;have:=iP aO;show 0<=y.i/\y.i<(fC.vs.length:Int);omega
   ·exact dw.lt y q aO
  ·have ay:fC.vs[k]?=some v:=ay;rcases dw.use k v ay with q|⟨y,jU,jD,uS⟩
   ·by_cases r:k<σ.vs.length
    ·rcases e6.use k v ((H3 k r).symm.trans ay) with cO|⟨y,jU,jD,uS⟩
     ·exact .inl cO
     ·obtain⟨c,aC⟩:=kp.1 jU;have lf:=eU aC;exact .inr ⟨y,cb ((lR c (by omega)).trans ((BA c lf).trans aC)),jD,uS⟩
    ·by_cases ed:k<bG.vs.length
     ·rcases t3 with⟨h,_⟩|⟨w,y,h,_,aF,bo,eB⟩
      ·rw[h] at ed;exact absurd ed r
      ·exact .inr ⟨x,aj8,bo,by rw[eB];congr 1;rw[h] at ed;simp at ed;omega⟩
     ·have:=hc.IB k v (by omega) ay;omega
   ·exact .inr ⟨y,KX y jU jD,jD,uS⟩
 ·show fC.bO[σ.ns.length]?=some seen;rw[hN.bO _ (by rw[t2,dP,e6.bO];simp),t2,<-e6.bO,qh]
 ·by_cases q:c=σ.ns.length
  ·subst q;refine⟨x,seen,L,I5 a1,?_,ig,jN,fun i d aV=>?_,uR⟩
   ·show fC.bO[σ.ns.length]?=some seen;rw[hN.bO _ (by rw[t2,dP,e6.bO];simp),t2,<-e6.bO,qh]
   ·rw[gF] at aV;obtain⟨bl,bp,bQ⟩:=hc.each i d aV;have ao:=eU aV;rw[hc.n] at ao;refine⟨by omega,by simp;exact bp,P,?_,by rw[lC] at bQ;exact bQ⟩;rcases dt with dt|dt
    ·omega
    ·exact dt
  ·obtain⟨y,dQ,bN,aq⟩:=hc.px c (by omega) (by simpa using c2);exact⟨y,dQ,bN,aq.ext ix (.inr (lR c q))⟩
 ·obtain⟨g,rfl⟩:∃g,f=g+1:=⟨f -1,by omega⟩;have fs:∃es,hk (dN fC.ns g σ.ns.length (d+1)) ds bG.ns.length=some (fC.ns.length,es)/\∀e∈es,e.2.1<=d+((bU.length -L:Nat):Int):=by
   rcases bS with bS|bS
   ·have:ds=[]:=q5.1 (by rw[hc.n,bS]);subst this;obtain⟨aso,aa,ae⟩:=hc.bK (bU.length+1) 0 0 (by omega);simp only[hk,cp,dB] at aa;exact⟨[],by rw[<-aa.1];rfl,fun e he=>by cases he⟩
   ·obtain⟨es,aa,ae⟩:=hc.bK g (σ.ns.length:Int) (d+1) (by omega);exact⟨es,aa,fun e he=>by have:=ae e he;omega⟩
  obtain⟨es,aa,ae⟩:=fs;refine⟨(p,d,(fC.ns.length:Int) -1)::es,?_,fun e he=>?_⟩
  ·show dN (fC.ns.set σ.ns.length x) (g+1) p d σ.ns.length=some ((fC.ns.set σ.ns.length x).length,_);unfold dN;rw[I5 a1];simp only
   rw[gF,show σ.ns.length+1=bG.ns.length by omega,acP aa (by omega) (fun c c1 c2=>lR c (by omega))];simp
  ·rcases e3.1 he with q|q
   ·subst q;show d<=_;omega
   ·exact ae e q
 ·have ae:fC.vs[k]?=some v:=ae;by_cases ed:k<bG.vs.length
  ·rcases t3 with⟨h,_⟩|⟨w,y,h,_,aF,bo,eB⟩
   ·rw[h] at ed;omega
   ·rw[hN.vs k ed,h] at ae;have:k=σ.vs.length:=by rw[h] at ed;simp at ed;omega
    subst this;rw[qh] at ae;injection ae with ae;subst ae;omega
  ·have:=hc.IB k v (by omega) ae;omega
 ·obtain⟨F,fJ⟩:=hc.fst;refine⟨fun k=>if k<bG.vs.length then σ.ns.length else F k,⟨fun k aa ae=>?_,fun k ft aa ae aF=>?_⟩⟩
  ·have ae:k<fC.vs.length:=ae;by_cases q:k<bG.vs.length
   ·rw[aE q];rcases t3 with⟨h,_⟩|⟨w,y,h,_,aF,bo,eB⟩
    ·rw[h] at q;omega
    ·have:k=σ.vs.length:=by rw[h] at q;simp at q;omega
     subst this;exact⟨cW _,by simp;omega,⟨x,I5 a1,bo,eB⟩,fun c z c1 _ _ _=>c1⟩
   ·rw[an q];obtain⟨dH,hP,⟨z,ij,ki,lr⟩,nS⟩:=fJ.at_ k (by omega) ae;refine⟨by omega,by simp;exact hP,⟨z,(lR _ (by omega)).trans ij,ki,lr⟩,fun c y c1 ai jU jD=>?_⟩;by_cases r:c=σ.ns.length
    ·subst r;have ai:(fC.ns.set σ.ns.length x)[σ.ns.length]?=some y:=ai;rw[I5 a1] at ai;injection ai with ai;subst ai
     have:=iP jU;omega
    ·exact nS c y (by omega) ((lR c r).symm.trans ai) jU jD
  ·have aF:ft<fC.vs.length:=aF;by_cases bb:k<bG.vs.length
   ·by_cases a7:ft<bG.vs.length
    ·omega
    ·rw[aE bb,an a7];have:=(fJ.at_ ft (by omega) aF).1;omega
   ·rw[an bb,an (by omega)];exact fJ.up k ft (by omega) ae aF
end
end Go.Opn

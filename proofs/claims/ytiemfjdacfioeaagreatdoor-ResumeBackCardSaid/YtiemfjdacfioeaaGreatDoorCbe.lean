/- A part of the proof of ResumeBack. -/
import Derived.Test.YtiemfjdacfioeaaGreatDoorCbb
set_option linter.unusedVariables false
namespace Go.Opn
noncomputable section
structure tf (P L:List Int) (i:Nat) (kids:List Int):Prop where
 len:L.length=P.length
 root:L[0]?=some (-1)
 done:∀(c:Nat) (a:Int),1<=c->P[c]?=some a->(a<i\/(a=i/\(c:Int)∈kids))->L[c]?=some a
theorem tf.step{P L:List Int}{i k:Nat}{ak:List Int}{dU:Int}(h:tf P L i (ak.take k))(U:ak[k]?=some dU)(aa:1<=dU)(ae:P[dU.toNat]?=some (i:Int)):tf P (L.set dU.toNat i) i (ak.take (k+1)):=by
 have c4:=(dX.1 ae).1;refine⟨by rw[gu];exact h.len,?_,fun c a aH a' aZ=>?_⟩
 ·rw[kH,ap (by omega)];exact h.root
 ·rw[kH,h.len];by_cases q:dU.toNat=c
  ·rw[aE q,aE c4];rw[q,a'] at ae;exact ae.symm
  ·rw[ap q];refine h.done c a aH a' ?_;rcases aZ with aZ|⟨vD,xm⟩
   ·exact .inl aZ
   ·refine .inr ⟨vD,?_⟩;rw[nS,U] at xm;rcases kX.1 xm with r|r
    ·exact r
    ·simp at r;omega
theorem tf.next{g:bz}{P L:List Int}{i:Nat}{x:cS}(aD:Tree g P)(U:g.ns[i]?=some x)(h:tf P L i x.ak):tf P L (i+1) []:=by
 refine⟨h.len,h.root,fun c a aH a' aZ=>?_⟩;rcases aZ with aZ|⟨_,aZ⟩
 ·by_cases q:a<i
  ·exact h.done c a aH a' (.inl q)
  ·have k8:c<g.ns.length:=by rw[<-aD.len];exact(dX.1 a').1
   obtain⟨b,aa,ae,y,aG,br⟩:=aD.up c aH k8;rw[a'] at aa;injection aa with aa
   obtain rfl:b=i:=by omega
   rw[U] at aG;injection aG with aG;subst aG
   exact h.done c a aH a' (.inr ⟨aa,br⟩)
 ·cases aZ
theorem tf.all{g:bz}{P L:List Int}(aD:Tree g P)(h:tf P L g.ns.length [])(aP:1<=g.ns.length):L=P:=by
 apply lp
 intro c;by_cases aH:c<g.ns.length
 ·by_cases q:c=0
  ·subst q;rw[h.root,aD.root]
  ·obtain⟨a,aa,ae,_⟩:=aD.up c (by omega) aH;rw[aa,h.done c a (by omega) aa (.inl (by omega))]
 ·rw[fx (by rw[h.len,aD.len];omega),fx (by rw[aD.len];omega)]
theorem WK{v:Int}:∀{l:List Int} {n:Nat},0<=ix v l n->∃m:Nat,ix v l n=((n+m:Nat):Int)/\l[m]?=some v:=by
 intro l;induction l with
 |nil=>intro n h;simp[ix] at h
 |cons x r aK=>
  intro n h;unfold ix at h ⊢;split
  ·rename_i q;exact⟨0,by simp,by rw[q];rfl⟩
  ·rename_i q;rw[ap q] at h;obtain⟨m,aa,ae⟩:=aK h;exact⟨m+1,by rw[aa];congr 1;omega,by rw[yr];exact ae⟩
theorem Yp{l:List Int}(h:l.Pairwise (·<·)){i j:Nat}{x y:Int}(ao:l[i]?=some x)(ba:l[j]?=some y)(O3:i<j):x<y:=by
 obtain⟨aa,ae⟩:=dX.1 ao;obtain⟨aG,br⟩:=dX.1 ba;have:=List.pairwise_iff_getElem.1 h i j aa aG O3;omega
theorem PZ{v w:Int}{l:List Int}{k:Nat}(h:l.Pairwise (·<·))(aU:l[k]?=some w):w=v↔ix v l 0=(k:Int):=by
 constructor
 ·rintro rfl;obtain⟨m,aa,ae⟩:=WK (PY (n:=0).2 (cd aU));rw[aa];by_cases bd:m<k
  ·have:=Yp h ae aU bd;omega
  ·by_cases a6:k<m
   ·have:=Yp h aU ae a6;omega
   ·omega
 ·intro q;obtain⟨m,aa,ae⟩:=WK (v:=v) (l:=l) (n:=0) (by omega);obtain rfl:m=k:=by omega
  rw[aU] at ae;injection ae
def oa(done:List (Int×Int))(y:cS)(p:Int)(c k:Nat):List (Int×Int):=done++(if(y.k=2/\y.p=p)/\0<=ix (c:Int) y.ak 0/\ix (c:Int) y.ak 0<(k:Int) then[(y.i,ix (c:Int) y.ak 0)] else[])
theorem ajO{done:List (Int×Int)}{y:cS}{p:Int}{c:Nat}:oa done y p c 0=done:=by
 unfold oa;rw[ap (fun q=>by omega),gg]
theorem ajN{done:List (Int×Int)}{y:cS}{p:Int}{c k:Nat}{w:Int}(h:y.ak.Pairwise (·<·))(hm:y.k=2/\y.p=p)(aU:y.ak[k]?=some w)(hw:w=(c:Int)):oa done y p c (k+1)=oa done y p c k++[(y.i,(k:Int))]:=by
 have ao:=(PZ (v:=(c:Int)) h aU).1 hw;unfold oa;rw[aE ⟨hm,by omega,by omega⟩,ap (fun q=>by omega),gg,ao]
theorem ajM{done:List (Int×Int)}{y:cS}{p:Int}{c k:Nat}{w:Int}(h:y.ak.Pairwise (·<·))(aU:y.ak[k]?=some w)(hw:w≠(c:Int)):oa done y p c (k+1)=oa done y p c k:=by
 have ao:¬ix (c:Int) y.ak 0=(k:Int):=fun q=>hw ((PZ (v:=(c:Int)) h aU).2 q);unfold oa;by_cases q:(y.k=2/\y.p=p)/\0<=ix (c:Int) y.ak 0/\ix (c:Int) y.ak 0<(k:Int)
 ·rw[aE q,aE ⟨q.1,q.2.1,by omega⟩]
 ·rw[ap q,ap (fun r=>q ⟨r.1,r.2.1,by omega⟩)]
theorem K2{done:List (Int×Int)}{y:cS}{p:Int}{c k:Nat}:(oa done y p c k).length<=done.length+1:=by
 unfold oa;rw[dv];split<;>simp
theorem P2{g:bz}{P:List Int}{done:List (Int×Int)}{y:cS}{p:Int}{a c k:Nat}(aw:P[c]?=some (a:Int))(h9:a<c)(ai:g.ns[a]?=some y)(aH:(c:Int)∈y.ak)(aU:(y.k=2/\y.p=p)->y.ak.length<=k):oa done y p c k++jU g P p a=done++jU g P p c:=by
 unfold oa jU;rw[gH];congr 1
 by_cases q:y.k=2/\y.p=p
 ·have aa:=PY (n:=0).2 aH;have ae:=ajG (v:=(c:Int)) (l:=y.ak) (n:=0);rw[aE ⟨q,aa,by have:=aU q;omega⟩,BS aw h9 ai q,nR];have:l5 g a=y.i:=by unfold l5;rw[ai]
  rw[this];rfl
 ·rw[ap (fun r=>q r.1),zE aw h9 ai q];rfl
def we(g:bz)(P:List Int)(i:Int)(c:Nat):Prop:=∃a d y,(a,d)∈mg P c/\g.ns[a]?=some y/\y.k=2/\y.i=i
theorem SJ{g:bz}{P:List Int}{i:Int}{c a:Nat}{y:cS}(aw:P[c]?=some (a:Int))(h9:a<c)(ai:g.ns[a]?=some y):we g P i c↔(y.k=2/\y.i=i)\/we g P i a:=by
 unfold we;rw[JF aw h9];constructor
 ·rintro⟨b,d,z,aa,ae,aG⟩;rcases fg.1 aa with q|q
  ·injection q with bd a6;subst bd
   rw[ai] at ae;injection ae with ae;subst ae
   exact .inl aG
  ·exact .inr ⟨b,d,z,q,ae,aG⟩
 ·rintro(h|⟨b,d,z,aa,ae,aG⟩)
  ·exact⟨a,c,y,.head _,ai,h⟩
  ·exact⟨b,d,z,.tail _ aa,ae,aG⟩
theorem aa0{g:bz}{P:List Int}{i:Int}{c:Nat}{a:Int}(aw:P[c]?=some a)(a':a<0):¬we g P i c:=by
 rintro⟨b,d,z,aa,_⟩;rw[SS aw a'] at aa;cases aa
end
end Go.Opn
namespace Go.Opn
noncomputable section
structure en where
 b3:Int
 many:Int
 fL:Int
structure ju where
 b3:Int
 level:Nat
 seen:List Int
structure eb where
 l:List Int
 cG:Int
 ns:List cS
 is:List (Int×Int)
 vs:List ju
 bR:List (List (List Int))
open Classical
def eh(l:List Int)(n:Int):Int:=match l with|[]=>0|x::_=>if n<1 then 0 else x % n
def fX(l:List Int)(n:Int):List Int:=match l with|[]=>[]|x::r=>if n<1 then x::r else r
theorem pB{l:List Int}{n:Int}(h:1<=n):0<=eh l n/\eh l n<n:=by
 cases l with
 |nil=>show 0<=(0:Int)/\(0:Int)<n;omega
 |cons x r=>
  show 0<=(if n<1 then(0:Int) else x % n)/\(if n<1 then(0:Int) else x % n)<n;rw[ap (by omega)];exact⟨R4 _ (by omega),R3 _ (by omega)⟩
def og:Nat->List Int->List Int×List Int
 |0,l=>([],l)
 |n+1,l=>((eh l 7 -3)::(og n (fX l 7)).1,(og n (fX l 7)).2)
theorem alO:∀(n:Nat) (l:List Int),(og n l).1.length=n/\∀w∈(og n l).1,-3<=w/\w<=3:=by
 intro n;induction n with
 |zero=>intro l;exact⟨rfl,fun w h=>by cases h⟩
 |succ n aK=>
  intro l;obtain⟨aa,ae⟩:=aK (fX l 7);refine⟨by show _+1=_;rw[aa],fun w hw=>?_⟩;rcases fg.1 hw with q|q
  ·have:=pB (l:=l) (n:=7) (by omega);omega
  ·exact ae w q
def vn(pl:Nat)(a:Nat)(σ:eb):eb:={σ with l:=(og pl σ.l).2,ns:=σ.ns.set a ⟨3,0,0,[],[],(og pl σ.l).1⟩}
def kq (v:ju):List ju->Nat->Option Nat
 |[],_=>none
 |w::r,i=>if w=v then some i else kq v r (i+1)
theorem GC{v:ju}:∀{l:List ju} {i k:Nat},kq v l i=some k->i<=k/\l[k -i]?=some v:=by
 intro l;induction l with
 |nil=>intro i k h;cases h
 |cons w r aK=>
  intro i k h;unfold kq at h;split at h
  ·rename_i q;injection h with h;subst h;subst q;simp
  ·obtain⟨aa,ae⟩:=aK h;refine⟨by omega,?_⟩;rw[show k -i=(k -(i+1))+1 by omega,yr];exact ae
def LU(p:en)(q:Nat):Bool:=decide (p.fL / 2 ^ q % 2=1)
def rL(p:en)(i:Nat)(q:Nat):Int:=if(q:Int)=p.b3\/LU p q=true then(i:Int) else -1
def kA(p:en)(i:Nat)(seen:List (List Int)):List (List Int):=seen.mapIdx fun q s=>s++[rL p i q]
def wb (k:Int)(ns:List cS):Bool:=ns.any fun x=>decide (x.k=2/\x.i=k)
def jf (info b3:Int)(σ:eb):eb:=
 if b3<0\/info≠(σ.is.length:Int) -1 then σ
 else if wb info σ.ns=true then σ
 else{σ with is:=σ.is.take info.toNat,vs:=σ.vs.take (σ.vs.length -1)}
def eC (p:en)(L:Nat)(s:List Int)(σ:eb):eb×Nat:=match kq ⟨p.b3,L,s⟩ σ.vs 0 with
 |some k=>(σ,k)
 |none=>({σ with l:=fX σ.l 3,vs:=σ.vs++[⟨p.b3,L,s⟩],is:=σ.is++[(p.b3,1+eh σ.l 3)]},σ.vs.length)
def kids(rec:List (List Int)->eb->eb)(p:en)(seen:List (List Int)):Nat->Nat->eb->List Int->List Int->eb×List Int×List Int
 |0,_,σ,ak,ws=>(σ,ak,ws)
 |k+1,i,σ,ak,ws=>
  if p.b3<0 then kids rec p seen k (i+1) (rec (kA p i seen) {σ with l:=fX σ.l 3}) (ak++[(σ.ns.length:Int)]) (ws++[1+eh σ.l 3])
  else kids rec p seen k (i+1) (rec (kA p i seen) σ) (ak++[(σ.ns.length:Int)]) ws
def kS(seen:List (List Int))(σ:eb):eb:={σ with cG:=σ.cG -1,ns:=σ.ns++[⟨0,0,0,[],[],[]⟩],bR:=σ.bR++[seen]}
def e'(p:en)(seen:List (List Int)):List Int:=(seen[p.b3.toNat]?).getD []
def r4 (k:Nat)(σ:eb):Int:=match σ.is[k]? with|some y=>y.2|none=>0
def lR (most:Int)(pl:Nat):List en->Nat->List (List Int)->eb->eb
 |[],_,seen,σ=>vn pl σ.ns.length (kS seen σ)
 |p::lv,L,seen,σ=>
  let a:=σ.ns.length
  let RN:=kS seen σ
  let fe:={RN with l:=fX RN.l 8}
  if eh RN.l 8=1 then vn pl a fe
  else if p.b3<0 then
   if most<(a:Int)+1+fe.cG+p.many then vn pl a fe
   else
    let r:=kids (lR most pl lv (L+1)) p seen p.many.toNat 0 {fe with cG:=fe.cG+p.many} [] []
    {r.1 with ns:=r.1.ns.set a ⟨1,0,0,r.2.1,r.2.2,[]⟩}
  else
   let f:=eC p L (e' p seen) fe
   let m:=r4 f.2 f.1
   if most<(a:Int)+1+f.1.cG+m then vn pl a (jf f.2 p.b3 f.1)
   else
    let r:=kids (lR most pl lv (L+1)) p seen m.toNat 0 {f.1 with cG:=f.1.cG+m} [] []
    {r.1 with ns:=r.1.ns.set a ⟨2,p.b3,f.2,r.2.1,r.2.2,[]⟩}
def BN(pl:Nat)(bX:List en):Prop:=∀p∈bX,-1<=p.b3/\p.b3<pl/\2<=p.many/\p.many<=3
structure s6 (pl:Nat) (bX:List en) (σ:eb) (c:Nat) (x:cS) (dM:List (List Int)) (L:Nat):Prop where
 U:σ.ns[c]?=some x
 kN:σ.bR[c]?=some dM
 aP:dM.length=pl
 hle:∀s∈dM,s.length=L
 aU:∀(i:Nat) (d:Int),x.ak[i]?=some d->(c:Int)<d/\d<σ.ns.length/\∃P,bX[L]?=some P/\σ.bR[d.toNat]?=some (kA P i dM)
 rq:(x.k=3/\x.p=0/\x.i=0/\x.ak=[]/\x.ws=[]/\x.fE.length=pl/\∀w∈x.fE,-3<=w/\w<=3)\/
  (x.k=1/\x.p=0/\x.i=0/\x.fE=[]/\x.ws.length=x.ak.length/\2<=x.ak.length/\x.ak.length<=3/\(∀w∈x.ws,1<=w/\w<=3)/\∃P,bX[L]?=some P/\P.b3<0)\/
  (x.k=2/\x.fE=[]/\x.ws=[]/\1<=x.ak.length/\x.ak.length<=3/\∃(P:en) (s:List Int) (k:Nat),bX[L]?=some P/\0<=P.b3/\x.p=P.b3/\x.i=(k:Int)/\dM[P.b3.toNat]?=some s/\kq ⟨P.b3,L,s⟩ σ.vs 0=some k/\σ.is[k]?=some (P.b3,(x.ak.length:Int)))
structure Ext (a:Nat) (σ jX:eb):Prop where
 ns:∀c,c<a->jX.ns[c]?=σ.ns[c]?
 bR:∀c,c<σ.bR.length->jX.bR[c]?=σ.bR[c]?
 vs:∀k,k<σ.vs.length->jX.vs[k]?=σ.vs[k]?
 is:∀k,k<σ.is.length->jX.is[k]?=σ.is[k]?
 EA:σ.ns.length<=jX.ns.length
 cg:σ.bR.length<=jX.bR.length
 gZ:σ.vs.length<=jX.vs.length
 HX:σ.is.length<=jX.is.length
theorem Ext.trans{a b:Nat}{σ jX aal:eb}(h:Ext a σ jX)(oM:Ext b jX aal)(mV:a<=b):Ext a σ aal:=
 ⟨fun c aH=>(oM.ns c (by omega)).trans (h.ns c aH),fun c aH=>(oM.bR c (by have:=h.cg;omega)).trans (h.bR c aH),fun k aU=>(oM.vs k (by have:=h.gZ;omega)).trans (h.vs k aU),fun k aU=>(oM.is k (by have:=h.HX;omega)).trans (h.is k aU),p0 h.EA oM.EA,p0 h.cg oM.cg,p0 h.gZ oM.gZ,p0 h.HX oM.HX⟩
theorem eT{α:Type}{l:List α}{i:Nat}{x:α}(h:l[i]?=some x):i<l.length:=(dX.1 h).1
theorem Uu{v:ju}:∀{l l':List ju} {i k:Nat},(∀k,k<l.length->l'[k]?=l[k]?)->kq v l i=some k->kq v l' i=some k:=by
 intro l;induction l with
 |nil=>intro l' i k _ h;cases h
 |cons w r aK=>
  intro l' i k af h;have bD:=af 0 (by simp);cases l' with
  |nil=>simp at bD
  |cons bu dw=>
   simp at bD;subst bD;unfold kq at h ⊢;split at h
   ·rename_i q;rw[aE q];exact h
   ·rename_i q;rw[ap q];exact aK (fun k aU=>by have:=af (k+1) (by simp;omega);simpa using this) h
theorem aeN{v:ju}:∀{l:List ju} {i:Nat},kq v l i=none->kq v (l++[v]) i=some (i+l.length):=by
 intro l;induction l with
 |nil=>intro i _;show(if v=v then some i else _)=_;rw[aE rfl];rfl
 |cons w r aK=>
  intro i h;unfold kq at h;split at h
  ·cases h
  ·rename_i q;show(if w=v then some i else kq v (r++[v]) (i+1))=_;rw[ap q,aK h];simp;omega
theorem s6.ext{pl:Nat}{bX:List en}{σ jX:eb}{c:Nat}{x:cS}{dM:List (List Int)}{L a:Nat}(h:s6 pl bX σ c x dM L)(he:Ext a σ jX)(aH:c<a\/jX.ns[c]?=σ.ns[c]?):s6 pl bX jX c x dM L:=by
 refine⟨?_,(he.bR c (eT h.kN)).trans h.kN,h.aP,h.hle,fun i d aZ=>?_,?_⟩
 ·rcases aH with aH|aH
  ·exact(he.ns c aH).trans h.U
  ·exact aH.trans h.U
 ·obtain⟨aa,ae,P,aG,br⟩:=h.aU i d aZ;exact⟨aa,by have:=he.EA;omega,P,aG,(he.bR _ (eT br)).trans br⟩
 ·rcases h.rq with q|q|⟨bd,a6,b9,fN,kd,P,s,k,cI,ei,gN,iZ,mE,qF,l9⟩
  ·exact .inl q
  ·exact .inr (.inl q)
  ·exact .inr (.inr ⟨bd,a6,b9,fN,kd,P,s,k,cI,ei,gN,iZ,mE,Uu he.vs qF,(he.is k (eT l9)).trans l9⟩)
structure jK (most:Int) (L:Nat) (σ:eb):Prop where
 bR:σ.bR.length=σ.ns.length
 is:σ.is.length=σ.vs.length
 lt:∀x∈σ.ns,x.k=2->0<=x.i/\x.i<σ.vs.length
 use:∀(k:Nat) (v:ju),σ.vs[k]?=some v->v.level<L\/∃x∈σ.ns,x.k=2/\x.i=(k:Int)
 ok:∀(k:Nat) (v:ju) (y:Int×Int),σ.vs[k]?=some v->σ.is[k]?=some y->y.1=v.b3/\1<=y.2/\y.2<=3
 sum:(σ.ns.length:Int)+σ.cG<=most
 uN:σ.vs.length<=σ.ns.length
theorem Zy{ns EF:List cS}:∀(f:Nat) (p d:Int) (n b0:Nat) (e:List gq),dP ns f p d n=some (b0,e)->(∀c,n<=c->c<b0->EF[c]?=ns[c]?)->dP EF f p d n=some (b0,e):=by
 intro f;induction f with
 |zero=>intro p d n b0 e h;cases h
 |succ f aK=>
  intro p d n b0 e h af;have av:=qJ _ _ _ _ _ _ h;unfold dP at h ⊢;rw[af n (cZ _) av.1];split at h
  ·cases h
  ·rename_i x U;split at h
   ·cases h
   ·rename_i dn es ae;simp only[cp,dC] at h;obtain⟨rfl,rfl⟩:=h;have key:∀{cs:List Int} {m m1:Nat} {e:List gq},hl (dP ns f n (d+1)) cs m=some (m1,e)->n+1<=m->m1<=dn->m<=ns.length->hl (dP EF f n (d+1)) cs m=some (m1,e):=by
     intro cs;induction cs with
     |nil=>intro m m1 e h _ _ _;exact h
     |cons c cs P0=>
      intro m m1 e h hm au Pg;rw[wQ] at h ⊢;split at h
      ·cases h
      ·rename_i aH;rw[ap aH];split at h
       ·cases h
       ·rename_i m2 bn g2;have y5:=qJ _ _ _ _ _ _ g2;split at h
        ·cases h
        ·rename_i m3 cP g3;simp only[cp,dC] at h;obtain⟨rfl,rfl⟩:=h;have UC:=AI (fun a b c q=>qJ _ _ _ a b c q) g3 y5.2.1;rw[aK _ _ _ _ _ g2 (fun c bt bw=>af c (by omega) (by omega))];simp only
         rw[P0 g3 (by omega) (by omega) y5.2.1]
    have c4:=(dX.1 U).1;rw[key ae (cZ _) (cZ _) (by omega)]
end
end Go.Opn
namespace Go.Opn
noncomputable section
theorem acg{ns EF:List cS}{f:Nat}{p d:Int}:∀{cs:List Int} {m m1:Nat} {e:List gq},hl (dP ns f p d) cs m=some (m1,e)->m<=ns.length->(∀c,m<=c->c<m1->EF[c]?=ns[c]?)->hl (dP EF f p d) cs m=some (m1,e):=by
 intro cs;induction cs with
 |nil=>intro m m1 e h _ _;exact h
 |cons c cs aK=>
  intro m m1 e h hm af;rw[wQ] at h ⊢;split at h
  ·cases h
  ·rename_i aH;rw[ap aH];split at h
   ·cases h
   ·rename_i m2 bn g2;have y5:=qJ _ _ _ _ _ _ g2;split at h
    ·cases h
    ·rename_i m3 cP g3;simp only[cp,dC] at h;obtain⟨rfl,rfl⟩:=h;have UC:=AI (fun a b c q=>qJ _ _ _ a b c q) g3 y5.2.1;rw[Zy _ _ _ _ _ _ g2 (fun c bt bw=>af c (by omega) (by omega))];simp only
     rw[aK g3 y5.2.1 (fun c bt bw=>af c (by omega) bw)]
structure R1 (a v0:Nat) (σ:eb) (F:Nat->Nat):Prop where
 at_:∀k,v0<=k->k<σ.vs.length->a<=F k/\F k<σ.ns.length/\(∃x,σ.ns[F k]?=some x/\x.k=2/\x.i=(k:Int))/\∀c x,a<=c->σ.ns[c]?=some x->x.k=2->x.i=(k:Int)->F k<=c
 up:∀k ft,v0<=k->k<ft->ft<σ.vs.length->F k<F ft
structure CE (most:Int) (pl:Nat) (bX:List en) (L:Nat) (seen:List (List Int)) (σ jX:eb):Prop where
 ext:Ext σ.ns.length σ jX
 gE:jK most L jX
 cG:jX.cG=σ.cG -1
 lt:σ.ns.length<jX.ns.length
 SQ:jX.bR[σ.ns.length]?=some seen
 pp:∀c,σ.ns.length<=c->c<jX.ns.length->∃x dM bQ,s6 pl bX jX c x dM bQ
 Zw:∀(f:Nat) (p d:Int),bX.length -L<f->∃es,dP jX.ns f p d σ.ns.length=some (jX.ns.length,es)/\∀e∈es,e.2.1<=d+((bX.length -L:Nat):Int)
 Ii:∀(k:Nat) (v:ju),σ.vs.length<=k->jX.vs[k]?=some v->L<=v.level
 fst:∃F,R1 σ.ns.length σ.vs.length jX F
structure Mr (most:Int) (pl:Nat) (bX:List en) (L:Nat) (seen:List (List Int)) (P:en) (i k:Nat) (bK fB:eb) (ds:List Int):Prop where
 ext:Ext bK.ns.length bK fB
 gE:jK most (L+1) fB
 cG:fB.cG=bK.cG -k
 n:ds.length=k
 pp:∀c,bK.ns.length<=c->c<fB.ns.length->∃x dM bQ,s6 pl bX fB c x dM bQ
 bU:∀(f:Nat) (a d:Int),bX.length -(L+1)<f->∃es,hl (dP fB.ns f a d) ds bK.ns.length=some (fB.ns.length,es)/\∀e∈es,e.2.1<=d+((bX.length -(L+1):Nat):Int)
 each:∀(j:Nat) (d:Int),ds[j]?=some d->(bK.ns.length:Int)<=d/\d<fB.ns.length/\fB.bR[d.toNat]?=some (kA P (i+j) seen)
 Ii:∀(k:Nat) (v:ju),bK.vs.length<=k->fB.vs[k]?=some v->L+1<=v.level
 fst:∃F,R1 bK.ns.length bK.vs.length fB F
theorem jK.l{most:Int}{L:Nat}{σ:eb}(h:jK most L σ)(l:List Int):jK most L {σ with l:=l}:=⟨h.bR,h.is,h.lt,h.use,h.ok,h.sum,h.uN⟩
theorem Ext.refl(a:Nat)(σ:eb):Ext a σ σ:=⟨fun _ _=>rfl,fun _ _=>rfl,fun _ _=>rfl,fun _ _=>rfl,cZ _,cZ _,cZ _,cZ _⟩
theorem BY{P:en}{i:Nat}{seen:List (List Int)}:(kA P i seen).length=seen.length:=by unfold kA;simp
theorem Qw{P:en}{i L:Nat}{seen:List (List Int)}(h:∀s∈seen,s.length=L):∀s∈kA P i seen,s.length=L+1:=by
 intro s af;unfold kA at af;obtain⟨q,c7,rfl⟩:=List.mem_mapIdx.1 af;rw[dv,h _ (Jo c7)];rfl
theorem WX{most:Int}{pl:Nat}{bX:List en}{L:Nat}{seen:List (List Int)}{P:en}{rec:List (List Int)->eb->eb}(hW:seen.length=pl)(jB:∀s∈seen,s.length=L)
 (D':∀dM σ,jK most (L+1) σ->1<=σ.cG->dM.length=pl->(∀s∈dM,s.length=L+1)->CE most pl bX (L+1) dM σ (rec dM σ)):
 ∀(k i:Nat) (bK:eb) (ak ws:List Int),jK most (L+1) bK->(k:Int)<=bK.cG->∃ds wn,kids rec P seen k i bK ak ws=((kids rec P seen k i bK ak ws).1,ak++ds,ws++wn)/\
  Mr most pl bX L seen P i k bK (kids rec P seen k i bK ak ws).1 ds/\(P.b3<0->wn.length=k/\∀w∈wn,1<=w/\w<=3)/\(0<=P.b3->wn=[]):=by
 intro k;induction k with
 |zero=>
  intro i bK ak ws di aw;refine⟨[],[],by simp[kids],⟨Ext.refl _ _,di,by simp[kids],rfl,fun c bt bw=>?_,fun f a d aC=>⟨[],rfl,fun e he=>by cases he⟩,fun j d aZ=>by simp at aZ,fun k v aa ae=>?_,⟨fun _=>0,⟨fun k aa ae=>?_,fun k ft aa ae aG=>?_⟩⟩⟩,fun _=>⟨rfl,fun w hw=>by cases hw⟩,fun _=>rfl⟩
  ·have bw:c<bK.ns.length:=bw;omega
  ·have:=eT ae;have:k<bK.vs.length:=this;omega
  ·have:k<bK.vs.length:=ae;omega
  ·have:ft<bK.vs.length:=aG;omega
 |succ k aK=>
  intro i bK ak ws di aw
  --E5 first child
  obtain⟨uP,Ag,iH,aN,nK,Ef⟩:∃uP Ag,uP=(if P.b3<0 then{bK with l:=fX bK.l 3} else bK)/\kids rec P seen (k+1) i bK ak ws=kids rec P seen k (i+1) (rec (kA P i seen) uP) (ak++[(bK.ns.length:Int)]) (ws++Ag)/\(P.b3<0->Ag.length=1/\∀w∈Ag,1<=w/\w<=3)/\(0<=P.b3->Ag=[]):=by
   by_cases q:P.b3<0
   ·refine⟨_,[1+eh bK.l 3],rfl,by rw[aE q];simp only[kids];rw[aE q],fun _=>⟨rfl,fun w hw=>?_⟩,fun dz=>by omega⟩;simp at hw;subst hw;have:=pB (l:=bK.l) (n:=3) (by omega);omega
   ·exact⟨_,[],rfl,by rw[ap q];simp only[kids];rw[ap q,gg],fun dz=>absurd dz q,fun _=>rfl⟩
  have f1:uP.ns=bK.ns:=by rw[iH];split<;>rfl
  have f2:uP.bR=bK.bR:=by rw[iH];split<;>rfl
  have f3:uP.vs=bK.vs:=by rw[iH];split<;>rfl
  have f4:uP.is=bK.is:=by rw[iH];split<;>rfl
  have f5:uP.cG=bK.cG:=by rw[iH];split<;>rfl
  have ajc:jK most (L+1) uP:=by rw[iH];split;exact di.l _;exact di
  have cY:=D' (kA P i seen) uP ajc (by rw[f5];omega) (by rw[BY];exact hW) (Qw jB);generalize rec (kA P i seen) uP=uQ at cY aN;obtain⟨ds,wn,g1,hd,g3,g4⟩:=aK (i+1) uQ (ak++[(bK.ns.length:Int)]) (ws++Ag) cY.gE (by rw[cY.cG,f5];omega);generalize WH:(kids rec P seen k (i+1) uQ (ak++[(bK.ns.length:Int)]) (ws++Ag)).1=fB at g1 hd;have UY:=cY.lt;rw[f1] at UY;have arS:=hd.ext.EA;have ago:Ext bK.ns.length bK uQ:=by
   have:=cY.ext;exact⟨fun c aH=>by rw[<-f1];exact this.ns c (by rw[f1];exact aH),fun c aH=>by rw[<-f2];exact this.bR c (by rw[f2];exact aH),fun c aH=>by rw[<-f3];exact this.vs c (by rw[f3];exact aH),fun c aH=>by rw[<-f4];exact this.is c (by rw[f4];exact aH),by rw[<-f1];exact this.EA,by rw[<-f2];exact this.cg,by rw[<-f3];exact this.gZ,by rw[<-f4];exact this.HX⟩
  refine⟨(bK.ns.length:Int)::ds,Ag++wn,by rw[aN,WH,g1];simp,?_,fun q=>?_,fun q=>by rw[Ef q,g4 q];rfl⟩
  ·rw[aN,WH];obtain⟨aaw,Kh⟩:=cY.fst;obtain⟨aax,N9⟩:=hd.fst;rw[f1,f3] at Kh;refine⟨ago.trans hd.ext (by omega),hd.gE,by rw[hd.cG,cY.cG,f5];omega,by simp[hd.n],fun c bt bw=>?_,fun f a d aC=>?_,fun j d aZ=>?_,fun ft v aa ae=>?_,⟨fun k=>if k<uQ.vs.length then aaw k else aax k,⟨fun ft aa ae=>?_,fun ft K7 aa ae aG=>?_⟩⟩⟩
   ·by_cases q:c<uQ.ns.length
    ·obtain⟨x,dM,bQ,aq⟩:=cY.pp c (by rw[f1];exact bt) q;exact⟨x,dM,bQ,aq.ext hd.ext (.inl q)⟩
    ·exact hd.pp c (by omega) bw
   ·obtain⟨ad9,t1,t2⟩:=cY.Zw f a d aC;rw[f1] at t1;obtain⟨Gq,t3,t4⟩:=hd.bU f a d aC;refine⟨ad9++Gq,?_,fun e he=>?_⟩
    ·rw[wQ,ap (by simp),Zy _ _ _ _ _ _ t1 (fun c _ bw=>hd.ext.ns c bw)];simp only
     rw[t3]
    ·rcases kX.1 he with q|q
     ·exact t2 e q
     ·exact t4 e q
   ·cases j with
    |zero=>
     simp at aZ;subst aZ;refine⟨by omega,by omega,?_⟩;rw[cy,ta];have:=cY.SQ;rw[f1] at this;exact(hd.ext.bR _ (eT this)).trans this
    |succ j=>
     obtain⟨bp,bC,b5⟩:=hd.each j d (by simpa using aZ);exact⟨by omega,bC,by rw[b5];congr 2;omega⟩
   ·by_cases q:ft<uQ.vs.length
    ·exact cY.Ii ft v (by rw[f3];exact aa) ((hd.ext.vs ft q).symm.trans ae)
    ·exact hd.Ii ft v (by omega) ae
   ·by_cases q:ft<uQ.vs.length
    ·rw[aE q];obtain⟨dS,iz,⟨x,iX,lJ,nj⟩,mB⟩:=Kh.at_ ft aa q;refine⟨dS,by omega,⟨x,(hd.ext.ns _ iz).trans iX,lJ,nj⟩,fun c y bt ai jH jV=>?_⟩;by_cases r:c<uQ.ns.length
     ·exact mB c y bt ((hd.ext.ns c r).symm.trans ai) jH jV
     ·omega
    ·rw[ap q];obtain⟨dS,iz,iX,mB⟩:=N9.at_ ft (by omega) ae;refine⟨by omega,iz,iX,fun c y bt ai jH jV=>?_⟩;by_cases r:c<uQ.ns.length
     ·have hf:=(hd.ext.ns c r).symm.trans ai;have:=cY.gE.lt y (cd hf) jH;omega
     ·exact mB c y (by omega) ai jH jV
   ·by_cases bd:ft<uQ.vs.length
    ·by_cases a6:K7<uQ.vs.length
     ·rw[aE bd,aE a6];exact Kh.up ft K7 aa ae a6
     ·rw[aE bd,ap a6];have bo:=(Kh.at_ ft aa bd).2.1;have a2:=(N9.at_ K7 (by omega) aG).1;omega
    ·rw[ap bd,ap (by omega)];exact N9.up ft K7 (by omega) ae aG
  ·obtain⟨bo,a2⟩:=nK q;obtain⟨bm,bl⟩:=g3 q;refine⟨by rw[dv];omega,fun w hw=>?_⟩;rcases kX.1 hw with r|r
   ·exact a2 w r
   ·exact bl w r
end
end Go.Opn
namespace Go.Opn
noncomputable section
abbrev r7:cS:=⟨0,0,0,[],[],[]⟩
def aaC(pl:Nat)(bX:List en)(vs:List ju)(is:List (Int×Int))(x:cS)(dM:List (List Int))(L:Nat):Prop:=
 (x.k=3/\x.p=0/\x.i=0/\x.ak=[]/\x.ws=[]/\x.fE.length=pl/\∀w∈x.fE,-3<=w/\w<=3)\/
  (x.k=1/\x.p=0/\x.i=0/\x.fE=[]/\x.ws.length=x.ak.length/\2<=x.ak.length/\x.ak.length<=3/\(∀w∈x.ws,1<=w/\w<=3)/\∃P,bX[L]?=some P/\P.b3<0)\/
  (x.k=2/\x.fE=[]/\x.ws=[]/\1<=x.ak.length/\x.ak.length<=3/\∃(P:en) (s:List Int) (k:Nat),bX[L]?=some P/\0<=P.b3/\x.p=P.b3/\x.i=(k:Int)/\dM[P.b3.toNat]?=some s/\kq ⟨P.b3,L,s⟩ vs 0=some k/\is[k]?=some (P.b3,(x.ak.length:Int)))
theorem AY{α:Type}{l:List α}{x:α}{i:Nat}(h:i<l.length):(l++[x])[i]?=l[i]?:=lq h
theorem qb{α:Type}{l:List α}{x:α}:(l++[x])[l.length]?=some x:=by rw[qT (cZ _),tb];rfl
theorem ant{α:Type}{l:List α}{a c:Nat}{x:α}(h:c≠a):(l.set a x)[c]?=l[c]?:=by rw[kH,ap (fun q=>h q.symm)]
theorem IL{α:Type}{l:List α}{a:Nat}{x:α}(h:a<l.length):(l.set a x)[a]?=some x:=by rw[kH,aE rfl,aE h]
theorem mem_set{α:Type}{l:List α}{a:Nat}{x y:α}(h:y∈l.set a x):y=x\/y∈l:=by
 rcases CN h with q|q
 ·exact .inr q
 ·exact .inl q
theorem MQ{most:Int}{pl:Nat}{bX:List en}{L k:Nat}{seen:List (List Int)}{P:en}{σ bK fB:eb}{x:cS}{ds:List Int}(e2:jK most L σ)(dD:k=0\/bX[L]?=some P)(hW:seen.length=pl)(jB:∀s∈seen,s.length=L)(bT:k=0\/L<bX.length)
 (t1:bK.ns=σ.ns++[r7])(t2:bK.bR=σ.bR++[seen])
 (t3:(bK.vs=σ.vs/\bK.is=σ.is)\/∃v y,bK.vs=σ.vs++[v]/\bK.is=σ.is++[y]/\v.level=L/\x.k=2/\x.i=(σ.vs.length:Int))
 (t4:bK.cG=σ.cG -1+k)(hd:Mr most pl bX L seen P 0 k bK fB ds)(hj:x.ak=ds)(ig:x.k=2->0<=x.i/\x.i<bK.vs.length)(yf:aaC pl bX fB.vs fB.is x seen L):
 CE most pl bX L seen σ {fB with ns:=fB.ns.set σ.ns.length x}:=by
 have as5:bK.ns.length=σ.ns.length+1:=by rw[t1];simp
 have as7:σ.vs.length<=bK.vs.length/\bK.vs.length<=σ.vs.length+1:=by
  rcases t3 with⟨h,_⟩|⟨v,y,h,_⟩
  ·rw[h];omega
  ·rw[h];simp
 have hM:=hd.ext;have cr:=hM.EA;have xG:=hM.gZ;have a':σ.ns.length<fB.ns.length:=by omega
 have HM:∀k,k<σ.vs.length->fB.vs[k]?=σ.vs[k]?:=fun k aU=>by
  rw[hM.vs k (by omega)];rcases t3 with⟨h,_⟩|⟨v,y,h,_⟩
  ·rw[h]
  ·rw[h,AY aU]
 have rq:∀k,k<σ.is.length->fB.is[k]?=σ.is[k]?:=fun k aU=>by
  rcases t3 with⟨_,h⟩|⟨v,y,_,h,_⟩
  ·rw[hM.is k (by rw[h];exact aU),h]
  ·rw[hM.is k (by rw[h];simp;omega),h,AY aU]
 have ahP:σ.is.length<=fB.is.length:=by
  have:=hM.HX;rcases t3 with⟨_,h⟩|⟨v,y,_,h,_⟩
  ·rw[h] at this;exact this
  ·rw[h] at this;simp at this;omega
 have Bs:∀c,c<σ.ns.length->fB.ns[c]?=σ.ns[c]?:=fun c aH=>by rw[hM.ns c (by omega),t1,AY aH]
 have DQ:∀c,c<σ.bR.length->fB.bR[c]?=σ.bR[c]?:=fun c aH=>by rw[hM.bR c (by rw[t2];simp;omega),t2,AY aH]
 have ag0:fB.ns[σ.ns.length]?=some r7:=by rw[hM.ns _ (by omega),t1,qb]
 have lE:∀c,c≠σ.ns.length->(fB.ns.set σ.ns.length x)[c]?=fB.ns[c]?:=fun c aH=>ant aH;have j4:Ext 0 fB {fB with ns:=fB.ns.set σ.ns.length x}:=⟨fun c aH=>by omega,fun _ _=>rfl,fun _ _=>rfl,fun _ _=>rfl,by simp,cZ _,cZ _,cZ _⟩;have KB:∀y∈fB.ns,y.k=2->y∈fB.ns.set σ.ns.length x:=fun y ai aU=>by
  obtain⟨c,aH⟩:=kj.1 ai;have:c≠σ.ns.length:=fun q=>by
   rw[q,ag0] at aH;injection aH with aH;subst aH;cases aU
  exact cd ((lE c this).trans aH)
 have ajv:x∈fB.ns.set σ.ns.length x:=cd (IL a');refine⟨⟨fun c aH=>by rw[lE c (by omega)];exact Bs c aH,DQ,HM,rq,by simp;omega,by have:=hM.cg;rw[t2] at this;simp at this;show σ.bR.length<=fB.bR.length;omega,by show _<=fB.vs.length;omega,ahP⟩,?_,by show fB.cG=_;rw[hd.cG,t4];omega,by simp;omega,?_,fun c bt bw=>?_,fun f p d aC=>?_,fun k v aa ae=>?_,?_⟩
 ·have di:=hd.gE;refine⟨by simp;exact di.bR,di.is,fun y ai aU=>?_,fun k v az=>?_,di.ok,by simp;exact di.sum,by simp;exact di.uN⟩
  ·rcases mem_set ai with q|q
   ·subst q;have:=ig aU;show 0<=y.i/\y.i<(fB.vs.length:Int);omega
   ·exact di.lt y q aU
  ·have az:fB.vs[k]?=some v:=az;rcases di.use k v az with q|⟨y,jH,jV,yg⟩
   ·by_cases r:k<σ.vs.length
    ·rcases e2.use k v ((HM k r).symm.trans az) with cI|⟨y,jH,jV,yg⟩
     ·exact .inl cI
     ·obtain⟨c,aH⟩:=kj.1 jH;have k8:=eT aH;exact .inr ⟨y,cd ((lE c (by omega)).trans ((Bs c k8).trans aH)),jV,yg⟩
    ·by_cases ei:k<bK.vs.length
     ·rcases t3 with⟨h,_⟩|⟨w,y,h,_,aG,br,eu⟩
      ·rw[h] at ei;exact absurd ei r
      ·exact .inr ⟨x,ajv,br,by rw[eu];congr 1;rw[h] at ei;simp at ei;omega⟩
     ·have:=hd.Ii k v (by omega) az;omega
   ·exact .inr ⟨y,KB y jH jV,jV,yg⟩
 ·show fB.bR[σ.ns.length]?=some seen;rw[hM.bR _ (by rw[t2,dv,e2.bR];simp),t2,<-e2.bR,qb]
 ·by_cases q:c=σ.ns.length
  ·subst q;refine⟨x,seen,L,IL a',?_,hW,jB,fun i d aZ=>?_,yf⟩
   ·show fB.bR[σ.ns.length]?=some seen;rw[hM.bR _ (by rw[t2,dv,e2.bR];simp),t2,<-e2.bR,qb]
   ·rw[hj] at aZ;obtain⟨bp,bC,b5⟩:=hd.each i d aZ;have ao:=eT aZ;rw[hd.n] at ao;refine⟨by omega,by simp;exact bC,P,?_,by rw[ls] at b5;exact b5⟩;rcases dD with dD|dD
    ·omega
    ·exact dD
  ·obtain⟨y,dM,bQ,aq⟩:=hd.pp c (by omega) (by simpa using bw);exact⟨y,dM,bQ,aq.ext j4 (.inr (lE c q))⟩
 ·obtain⟨g,rfl⟩:∃g,f=g+1:=⟨f -1,by omega⟩;have fs:∃es,hl (dP fB.ns g σ.ns.length (d+1)) ds bK.ns.length=some (fB.ns.length,es)/\∀e∈es,e.2.1<=d+((bX.length -L:Nat):Int):=by
   rcases bT with bT|bT
   ·have:ds=[]:=s9.1 (by rw[hd.n,bT]);subst this;obtain⟨arv,aa,ae⟩:=hd.bU (bX.length+1) 0 0 (by omega);simp only[hl,cp,dC] at aa;exact⟨[],by rw[<-aa.1];rfl,fun e he=>by cases he⟩
   ·obtain⟨es,aa,ae⟩:=hd.bU g (σ.ns.length:Int) (d+1) (by omega);exact⟨es,aa,fun e he=>by have:=ae e he;omega⟩
  obtain⟨es,aa,ae⟩:=fs;refine⟨(p,d,(fB.ns.length:Int) -1)::es,?_,fun e he=>?_⟩
  ·show dP (fB.ns.set σ.ns.length x) (g+1) p d σ.ns.length=some ((fB.ns.set σ.ns.length x).length,_);unfold dP;rw[IL a'];simp only
   rw[hj,show σ.ns.length+1=bK.ns.length by omega,acg aa (by omega) (fun c bt bw=>lE c (by omega))];simp
  ·rcases fg.1 he with q|q
   ·subst q;show d<=_;omega
   ·exact ae e q
 ·have ae:fB.vs[k]?=some v:=ae;by_cases ei:k<bK.vs.length
  ·rcases t3 with⟨h,_⟩|⟨w,y,h,_,aG,br,eu⟩
   ·rw[h] at ei;omega
   ·rw[hM.vs k ei,h] at ae;have:k=σ.vs.length:=by rw[h] at ei;simp at ei;omega
    subst this;rw[qb] at ae;injection ae with ae;subst ae;omega
  ·have:=hd.Ii k v (by omega) ae;omega
 ·obtain⟨F,fQ⟩:=hd.fst;refine⟨fun k=>if k<bK.vs.length then σ.ns.length else F k,⟨fun k aa ae=>?_,fun k ft aa ae aG=>?_⟩⟩
  ·have ae:k<fB.vs.length:=ae;by_cases q:k<bK.vs.length
   ·rw[aE q];rcases t3 with⟨h,_⟩|⟨w,y,h,_,aG,br,eu⟩
    ·rw[h] at q;omega
    ·have:k=σ.vs.length:=by rw[h] at q;simp at q;omega
     subst this;exact⟨cZ _,by simp;omega,⟨x,IL a',br,eu⟩,fun c z bt _ _ _=>bt⟩
   ·rw[ap q];obtain⟨dS,iz,⟨z,iX,lJ,nj⟩,mB⟩:=fQ.at_ k (by omega) ae;refine⟨by omega,by simp;exact iz,⟨z,(lE _ (by omega)).trans iX,lJ,nj⟩,fun c y bt ai jH jV=>?_⟩;by_cases r:c=σ.ns.length
    ·subst r;have ai:(fB.ns.set σ.ns.length x)[σ.ns.length]?=some y:=ai;rw[IL a'] at ai;injection ai with ai;subst ai
     have:=ig jH;omega
    ·exact mB c y (by omega) ((lE c r).symm.trans ai) jH jV
  ·have aG:ft<fB.vs.length:=aG;by_cases bd:k<bK.vs.length
   ·by_cases a6:ft<bK.vs.length
    ·omega
    ·rw[aE bd,ap a6];have:=(fQ.at_ ft (by omega) aG).1;omega
   ·rw[ap bd,ap (by omega)];exact fQ.up k ft (by omega) ae aG
end
end Go.Opn

/- A part of the proof of ResumeBytes. -/
import Derived.Test.YtkmfhjilfjecmaaGreatDoorCbi
import Derived.Test.YtkmfhjilfjecmaaGreatDoorCbd
set_option linter.unusedVariables false
namespace Go.Opn
noncomputable section
theorem akF{most:Int}{pl:Nat}{bU:List ep}{L:Nat}{seen:List (List Int)}{P:ep}{bG:ea}(dw:jY most (L+1) bG):MW most pl bU L seen P 0 0 bG bG []:=by
 refine⟨Ext.refl _ _,dw,by simp,rfl,fun c c1 c2=>by omega,fun f a d aD=>⟨[],rfl,fun e he=>by cases he⟩,fun j d aV=>by simp at aV,fun k v aa ae=>?_,⟨fun _=>0,⟨fun k aa ae=>by omega,fun k ft aa ae aF=>by omega⟩⟩⟩;have:=eU ae;omega
theorem Cz{most:Int}{L:Nat}{σ bG:ea}{seen:List (List Int)}(e6:jY most L σ)(t1:bG.ns=σ.ns++[sn])(t2:bG.bO=σ.bO++[seen])
 (t3:(bG.vs=σ.vs/\bG.is=σ.is)\/∃v y,bG.vs=σ.vs++[v]/\bG.is=σ.is++[y]/\v.level=L/\y.1=v.bZ/\1<=y.2/\y.2<=3)(t4:(σ.ns.length:Int)+1+bG.cI<=most):jY most (L+1) bG:=by
 refine⟨by rw[t1,t2,dP,dP,e6.bO];rfl,?_,fun x U aO=>?_,fun k v ay=>?_,fun k v y ay ai=>?_,by rw[t1];simp;omega,?_⟩
 ·rcases t3 with⟨aa,ae⟩|⟨v,y,aa,ae,_⟩
  ·rw[aa,ae];exact e6.is
  ·rw[aa,ae,dP,dP,e6.is];rfl
 ·rw[t1] at U;rcases ko.1 U with q|q
  ·have:=e6.lt x q aO;rcases t3 with⟨aa,ae⟩|⟨v,y,aa,ae,_⟩
   ·rw[aa];exact this
   ·rw[aa];simp;omega
  ·simp at q;subst q;cases aO
 ·by_cases r:k<σ.vs.length
  ·have v7:σ.vs[k]?=some v:=by
    rcases t3 with⟨aa,ae⟩|⟨w,y,aa,ae,_⟩
    ·rw[aa] at ay;exact ay
    ·rw[aa,A5 r] at ay;exact ay
   rcases e6.use k v v7 with q|⟨x,gF,iP,uR⟩
   ·exact .inl (by omega)
   ·exact .inr ⟨x,by rw[t1];exact nX _ gF,iP,uR⟩
  ·have aO:=eU ay;rcases t3 with⟨aa,ae⟩|⟨w,y,aa,ae,aF,_⟩
   ·rw[aa] at aO;exact absurd aO r
   ·have:k=σ.vs.length:=by rw[aa] at aO;simp at aO;omega
    subst this;rw[aa,qh] at ay;injection ay with ay;subst ay
    exact .inl (by omega)
 ·by_cases r:k<σ.vs.length
  ·have dx:k<σ.is.length:=by rw[e6.is];exact r
   rcases t3 with⟨aa,ae⟩|⟨w,z,aa,ae,_⟩
   ·rw[aa] at ay;rw[ae] at ai;exact e6.ok k v y ay ai
   ·rw[aa,A5 r] at ay;rw[ae,A5 dx] at ai;exact e6.ok k v y ay ai
  ·have aO:=eU ay;rcases t3 with⟨aa,ae⟩|⟨w,z,aa,ae,aF,bo,eB,ht⟩
   ·rw[aa] at aO;exact absurd aO r
   ·have:k=σ.vs.length:=by rw[aa] at aO;simp at aO;omega
    subst this;rw[aa,qh] at ay;injection ay with ay;subst ay
    rw[ae,<-e6.is,qh] at ai;injection ai with ai;subst ai
    exact⟨bo,eB,ht⟩
 ·have:=e6.uP;rcases t3 with⟨aa,ae⟩|⟨v,y,aa,ae,_⟩
  ·rw[aa,t1];simp;omega
  ·rw[aa,t1];simp;exact this
theorem Kb{most:Int}{pl:Nat}{bU:List ep}{L:Nat}{seen:List (List Int)}{σ bG:ea}(e6:jY most L σ)(ig:seen.length=pl)(jN:∀s∈seen,s.length=L)
 (t1:bG.ns=σ.ns++[sn])(t2:bG.bO=σ.bO++[seen])(t3:bG.vs=σ.vs)(wz:bG.is=σ.is)(t4:bG.cI=σ.cI -1):CV most pl bU L seen σ (vv pl σ.ns.length bG):=by
 have dw:jY most (L+1) {bG with l:=(ov pl bG.l).2}:=Cz e6 t1 t2 (.inl ⟨t3,wz⟩) (by have:=e6.sum;show _+bG.cI<=_;omega);obtain⟨dH,hP⟩:=amq pl bG.l;exact Nh (P:=⟨0,0,0⟩) (k:=0) (bG:={bG with l:=(ov pl bG.l).2}) (fC:={bG with l:=(ov pl bG.l).2}) (x:=⟨3,0,0,[],[],(ov pl bG.l).1⟩) (ds:=[]) e6 (.inl rfl) ig jN (.inl rfl) t1 t2 (.inl ⟨t3,wz⟩) (by show bG.cI=_;rw[t4];simp) (akF dw) rfl (fun q=>by cases q) (.inl ⟨rfl,rfl,rfl,rfl,rfl,dH,hP⟩)
theorem NU{α:Type}{l r:List α}{L:Nat}{p:α}(h:l.drop L=p::r):L<l.length/\l[L]?=some p/\l.drop (L+1)=r:=by
 have av:L<l.length:=by
  rcases ji L l.length with q|q
  ·exact q
  ·rw[Aw q] at h;cases h
 rw[ny av] at h;injection h with aa ae
 exact⟨av,by rw[dj av,aa],ae⟩
theorem Zh{p:ep}{seen:List (List Int)}{pl:Nat}(h:seen.length=pl)(bw:0<=p.bZ)(aa:p.bZ<pl):seen[p.bZ.toNat]?=some (fb p seen):=by
 have av:p.bZ.toNat<seen.length:=by omega
 unfold fb;rw[dj av];rfl
theorem Z2{k:Int}{ns:List cR}:wC k ns=true↔∃x∈ns,x.k=2/\x.i=k:=by
 unfold wC;rw[JE];simp
theorem aes{most:Int}{L:Nat}{σ ff:ea}{p:ep}{s:List Int}(e6:jY most L σ)(au:0<=p.bZ)(t1:ff.ns=σ.ns++[sn])(t3:ff.vs=σ.vs)(wz:ff.is=σ.is):
 (jq (eD p L s ff).2 p.bZ (eD p L s ff).1).vs=σ.vs/\(jq (eD p L s ff).2 p.bZ (eD p L s ff).1).is=σ.is/\(jq (eD p L s ff).2 p.bZ (eD p L s ff).1).ns=ff.ns/\(jq (eD p L s ff).2 p.bZ (eD p L s ff).1).bO=ff.bO/\(jq (eD p L s ff).2 p.bZ (eD p L s ff).1).cI=ff.cI:=by
 unfold eD;cases aD:ku ⟨p.bZ,L,s⟩ ff.vs 0 with
 |some k=>
  simp only
  obtain⟨_,ae⟩:=GV aD;rw[Az,t3] at ae;have hu:wC (k:Int) ff.ns=true:=by
   rw[Z2];rcases e6.use k _ ae with q|⟨x,gF,iP,uR⟩
   ·simp at q
   ·exact⟨x,by rw[t1];exact nX _ gF,iP,uR⟩
  unfold jq;rw[hu];split
  ·exact⟨t3,wz,rfl,rfl,rfl⟩
  ·rw[aE rfl];exact⟨t3,wz,rfl,rfl,rfl⟩
 |none=>
  simp only
  have hu:wC (ff.vs.length:Int) ff.ns=false:=by
   cases h:wC (ff.vs.length:Int) ff.ns with
   |false=>rfl
   |true=>
    rw[Z2] at h;obtain⟨x,gF,iP,uR⟩:=h;rw[t1] at gF;rcases ko.1 gF with q|q
    ·have:=e6.lt x q iP;rw[t3] at uR;omega
    ·simp at q;subst q;cases iP
  unfold jq;simp only
  rw[an (by
   intro q;rcases q with q|q
   ·omega
   ·apply q
    rw[dP,wz,e6.is,t3];simp),hu,an (by simp)]
  refine⟨?_,?_,rfl,rfl,rfl⟩
  ·simp;exact t3
  ·simp only
   rw[wz,cx,t3,<-e6.is,List.take_left'];rfl
theorem TI{most:Int}{pl:Nat}{bU:List ep}(kb:BY pl bU):∀(lv:List ep) (L:Nat) (seen:List (List Int)) (σ:ea),bU.drop L=lv->L<=bU.length->jY most L σ->1<=σ.cI->seen.length=pl->(∀s∈seen,s.length=L)->CV most pl bU L seen σ (l4 most pl lv L seen σ):=by
 intro lv;induction lv with
 |nil=>
  intro L seen σ _ _ e6 au ig jN;unfold l4;exact Kb e6 ig jN rfl rfl rfl rfl rfl
 |cons p lv aI=>
  intro L seen σ aV bS e6 au ig jN;obtain⟨oW,dt,xD⟩:=NU aV;have mF:=kb p (cb dt);have Ep:∀dQ σ,jY most (L+1) σ->1<=σ.cI->dQ.length=pl->(∀s∈dQ,s.length=L+1)->CV most pl bU (L+1) dQ σ (l4 most pl lv (L+1) dQ σ):=fun dQ σ a b c d=>aI (L+1) dQ σ xD oW a b c d;unfold l4;simp only
  split
  ·exact Kb e6 ig jN rfl rfl rfl rfl rfl
  ·split
   ·rename_i aC;split
    ·exact Kb e6 ig jN rfl rfl rfl rfl rfl
    ·rename_i hm;generalize pJ:({l:=fY (kV seen σ).l 8,cI:=(kV seen σ).cI+p.many,ns:=(kV seen σ).ns,is:=(kV seen σ).is,vs:=(kV seen σ).vs,bO:=(kV seen σ).bO}:ea)=bG;have t1:bG.ns=σ.ns++[sn]:=by rw[<-pJ];rfl
     have t2:bG.bO=σ.bO++[seen]:=by rw[<-pJ];rfl
     have t3:bG.vs=σ.vs:=by rw[<-pJ];rfl
     have wz:bG.is=σ.is:=by rw[<-pJ];rfl
     have t4:bG.cI=σ.cI -1+p.many:=by rw[<-pJ];rfl
     have hm:(σ.ns.length:Int)+1+(σ.cI -1)+p.many<=most:=by
      have:¬most<(σ.ns.length:Int)+1+(σ.cI -1)+p.many:=hm;omega
     have dw:jY most (L+1) bG:=Cz e6 t1 t2 (.inl ⟨t3,wz⟩) (by rw[t4];omega);obtain⟨ds,wn,g1,hc,g3,_⟩:=Xo (P:=p) ig jN Ep p.many.toNat 0 bG [] [] dw (by rw[t4];omega);rw[g1];simp only[k2];obtain⟨eK,hi⟩:=g3 aC;have aP:=hc.n;refine Nh (P:=p) (k:=p.many.toNat) (bG:=bG) (ds:=ds) (x:=⟨1,0,0,ds,wn,[]⟩) e6 (.inr dt) ig jN (.inr oW) t1 t2 (.inl ⟨t3,wz⟩) (by rw[t4];omega) hc rfl (fun q=>by cases q) (.inr (.inl ⟨rfl,rfl,rfl,rfl,by show wn.length=ds.length;omega,by show 2<=ds.length;omega,by show ds.length<=3;omega,hi,p,dt,aC⟩))
   ·rename_i aC;have rK:0<=p.bZ:=by omega
    generalize Ie:({l:=fY (kV seen σ).l 8,cI:=(kV seen σ).cI,ns:=(kV seen σ).ns,is:=(kV seen σ).is,vs:=(kV seen σ).vs,bO:=(kV seen σ).bO}:ea)=ff;have jB:ff.ns=σ.ns++[sn]:=by rw[<-Ie];rfl
    have lX:ff.bO=σ.bO++[seen]:=by rw[<-Ie];rfl
    have jc:ff.vs=σ.vs:=by rw[<-Ie];rfl
    have Jf:ff.is=σ.is:=by rw[<-Ie];rfl
    have qQ:ff.cI=σ.cI -1:=by rw[<-Ie];rfl
    split
    ·obtain⟨d1,d2,d3,d4,d5⟩:=aes (s:=fb p seen) e6 rK jB jc Jf;exact Kb e6 ig jN (d3.trans jB) (d4.trans lX) d1 d2 (d5.trans qQ)
    ·rename_i hm
     --Fi set
     obtain⟨v1,v2,v3,v4,v5,v6⟩:(eD p L (fb p seen) ff).1.ns=σ.ns++[sn]/\(eD p L (fb p seen) ff).1.bO=σ.bO++[seen]/\(eD p L (fb p seen) ff).1.cI=σ.cI -1/\
      (((eD p L (fb p seen) ff).1.vs=σ.vs/\(eD p L (fb p seen) ff).1.is=σ.is)\/∃v y,(eD p L (fb p seen) ff).1.vs=σ.vs++[v]/\(eD p L (fb p seen) ff).1.is=σ.is++[y]/\v.level=L/\y.1=v.bZ/\1<=y.2/\y.2<=3/\(eD p L (fb p seen) ff).2=σ.vs.length)/\
      ku ⟨p.bZ,L,fb p seen⟩ (eD p L (fb p seen) ff).1.vs 0=some (eD p L (fb p seen) ff).2/\
      (eD p L (fb p seen) ff).1.is[(eD p L (fb p seen) ff).2]?=some (p.bZ,sj (eD p L (fb p seen) ff).2 (eD p L (fb p seen) ff).1):=by
      unfold eD;cases aD:ku ⟨p.bZ,L,fb p seen⟩ ff.vs 0 with
      |some k=>
       simp only
       obtain⟨_,ae⟩:=GV aD;rw[Az] at ae;have aO:k<σ.is.length:=by rw[e6.is,<-jc];exact eU ae
       have ai:=dj aO;have dq:=e6.ok k _ _ (by rw[<-jc];exact ae) ai;refine⟨jB,lX,qQ,.inl ⟨jc,Jf⟩,aD,?_⟩;unfold sj;rw[Jf,ai];simp only
       rw[show p.bZ=σ.is[k].1 from dq.1.symm]
      |none=>
       simp only
       have aw:=pN (l:=ff.l) (n:=3) (by omega);refine⟨jB,lX,qQ,.inr ⟨_,_,by rw[jc],by rw[Jf],rfl,rfl,by show 1<=1+ej ff.l 3;omega,by show 1+ej ff.l 3<=3;omega,by rw[jc]⟩,by rw[afj aD,lC],?_⟩;unfold sj;simp only
       rw[Jf,jc,<-e6.is,qh]
     generalize eD p L (fb p seen) ff=f at*;generalize xN:sj f.2 f.1=B1 at*;generalize pJ:({l:=f.1.l,cI:=f.1.cI+B1,ns:=f.1.ns,is:=f.1.is,vs:=f.1.vs,bO:=f.1.bO}:ea)=bG;have t1:bG.ns=σ.ns++[sn]:=by rw[<-pJ];exact v1
     have t2:bG.bO=σ.bO++[seen]:=by rw[<-pJ];exact v2
     have t4:bG.cI=σ.cI -1+B1:=by rw[<-pJ];show f.1.cI+B1=_;rw[v3]
     have CE:bG.vs=f.1.vs:=by rw[<-pJ]
     have CA:bG.is=f.1.is:=by rw[<-pJ]
     have hm:(σ.ns.length:Int)+1+(σ.cI -1)+B1<=most:=by
      rw[v3] at hm;omega
     have dw:jY most (L+1) bG:=Cz e6 t1 t2 (by
      rcases v4 with⟨a,b⟩|⟨v,y,bm,a2,a3,a4,a5,da,_⟩
      ·exact .inl ⟨CE.trans a,CA.trans b⟩
      ·exact .inr ⟨v,y,CE.trans bm,CA.trans a2,a3,a4,a5,da⟩) (by rw[t4];omega)
     have RU:=(GV v5).2;rw[Az] at RU;have xO:=dw.ok f.2 _ _ (by rw[CE];exact RU) (by rw[CA];exact v6);simp only at xO;obtain⟨ds,wn,g1,hc,_,g4⟩:=Xo (P:=p) ig jN Ep B1.toNat 0 bG [] [] dw (by rw[t4];omega);rw[g1];simp only[k2];rw[g4 rK];have aP:=hc.n;have h1:f.2<bG.vs.length:=by rw[CE];exact eU RU
     refine Nh (P:=p) (k:=B1.toNat) (bG:=bG) (ds:=ds) (x:=⟨2,p.bZ,f.2,ds,[],[]⟩) e6 (.inr dt) ig jN (.inr oW) t1 t2 ?_ (by rw[t4];omega) hc rfl (fun _=>⟨by show(0:Int)<=(f.2:Int);omega,by show(f.2:Int)<_;omega⟩) (.inr (.inr ⟨rfl,rfl,rfl,by show 1<=ds.length;omega,by show ds.length<=3;omega,p,fb p seen,f.2,dt,rK,rfl,rfl,Zh ig rK (by omega),?_,?_⟩))
     ·rcases v4 with⟨a,b⟩|⟨v,y,bm,a2,a3,a4,a5,da,cT⟩
      ·exact .inl ⟨CE.trans a,CA.trans b⟩
      ·exact .inr ⟨v,y,CE.trans bm,CA.trans a2,a3,rfl,by show(f.2:Int)=_;rw[cT]⟩
     ·exact UZ hc.ext.vs (by rw[CE];exact v5)
     ·rw[hc.ext.is _ (by rw[CA];exact eU v6),CA,v6];show some (p.bZ,B1)=some (p.bZ,(ds.length:Int));congr 2;omega
end
end Go.Opn
namespace Go.Opn
noncomputable section
theorem agO{i:Int}{x:cR}:∀{l:List cR} {n a:Nat},l[a]?=some x->x.k=2/\x.i=i->((n+a:Nat):Int)∈eJ i n l:=by
 intro l;induction l with
 |nil=>intro n a h;cases h
 |cons y r aI=>
  intro n a h aO;cases a with
  |zero=>
   simp at h;subst h;unfold eJ;rw[aE aO];exact .head _
  |succ a=>
   have:=aI (n:=n+1) (a:=a) (by simpa using h) aO;rw[show n+1+a=n+(a+1) by omega] at this;unfold eJ;split
   ·exact .tail _ this
   ·exact this
theorem Vh{i:Int}:∀{l:List cR} {n:Nat} {x:Int},x∈eJ i n l->∃(c:Nat) (y:cR),x=((n+c:Nat):Int)/\l[c]?=some y/\y.k=2/\y.i=i:=by
 intro l;induction l with
 |nil=>intro n x h;cases h
 |cons y r aI=>
  intro n x h;unfold eJ at h;have Jd:x∈eJ i (n+1) r->∃(c:Nat) (z:cR),x=((n+c:Nat):Int)/\(y::r)[c]?=some z/\z.k=2/\z.i=i:=fun q=>by
   obtain⟨c,z,aa,ae,aF⟩:=aI q;exact⟨c+1,z,by rw[aa];congr 1;omega,by simpa using ae,aF⟩
  split at h
  ·rename_i q;rcases e3.1 h with cO|cO
   ·exact⟨0,y,by rw[cO];rfl,rfl,q.1,q.2⟩
   ·exact Jd cO
  ·exact Jd h
theorem agN{i:Int}:∀{l:List cR} {n:Nat} {y:Int},y∈eJ i n l->fj (eJ i n l)<=y:=by
 intro l;induction l with
 |nil=>intro n y h;cases h
 |cons x r aI=>
  intro n y h;unfold eJ at h ⊢;split
  ·rename_i q;rw[aE q] at h;rcases e3.1 h with cO|cO
   ·rw[cO];exact JB _
   ·have:=Zm cO;show(n:Int)<=y;omega
  ·rename_i q;rw[an q] at h;exact aI h
theorem ahM{s:List Int}(h:s≠[]):fj s∈s:=by
 cases s with
 |nil=>exact absurd rfl h
 |cons x r=>exact .head _
theorem aoZ{ns:List cR}:∀(f:Nat) (p d:Int) (n bX:Nat) (e:List gu) (g:Nat),dN ns f p d n=some (bX,e)->bX -n<g->dN ns g p d n=some (bX,e):=by
 intro f;induction f with
 |zero=>intro p d n bX e g h;cases h
 |succ f aI=>
  intro p d n bX e g h aq;have av:=qP _ _ _ _ _ _ h;obtain⟨g,rfl⟩:∃Ky,g=Ky+1:=⟨g -1,by omega⟩;unfold dN at h ⊢;split at h
  ·cases h
  ·rename_i x U;split at h
   ·cases h
   ·rename_i de es ae;simp only[cp,dB] at h;obtain⟨rfl,rfl⟩:=h;have cV:=(dY.1 U).1;have key:∀{cs:List Int} {m m1:Nat} {e:List gu},hk (dN ns f n (d+1)) cs m=some (m1,e)->m<=ns.length->m1 -m<g->hk (dN ns g n (d+1)) cs m=some (m1,e):=by
     intro cs;induction cs with
     |nil=>intro m m1 e h _ _;exact h
     |cons c cs Qq=>
      intro m m1 e h hm ap;rw[w9] at h ⊢;split at h
      ·cases h
      ·rename_i aC;rw[an aC];split at h
       ·cases h
       ·rename_i m2 bk g2;have ze:=qP _ _ _ _ _ _ g2;split at h
        ·cases h
        ·rename_i m3 cG g3;simp only[cp,dB] at h;obtain⟨rfl,rfl⟩:=h;have U7:=AQ (fun a b c q=>qP _ _ _ a b c q) g3 ze.2.1;rw[aI _ _ _ _ _ _ g2 (by omega)];simp only
         rw[Qq g3 ze.2.1 (by omega)]
    rw[key ae (by omega) (by omega)]
theorem adT{b:Int}(ap:0<=b){es:List gu}(h:∀e∈es,e.2.1<=b):rj es<=b:=by
 unfold rj;have key:∀(l:List gu) (m:Int),(∀e∈l,e.2.1<=b)->m<=b->l.foldl (fun m e=>max m e.2.1) m<=b:=by
  intro l;induction l with
  |nil=>intro m _ hm;exact hm
  |cons e r aI=>
   intro m av hm;exact aI _ (fun x U=>av x (.tail _ U)) (Int.max_le.2 ⟨hm,av e (.head _)⟩)
 exact key es 0 h ap
theorem alC{g:bq}:∀{l:List cR},(∀x∈l,eu g x=0)->pc g l=0:=by
 intro l;induction l with
 |nil=>intro _;rfl
 |cons x r aI=>
  intro h;show(if eu g x≠0 then eu g x else pc g r)=0;rw[an (fun q=>q (h x (.head _)))];exact aI fun y ai=>h y (.tail _ ai)
def I8(l:List Int):ea:=⟨l,1,[],[],[],[]⟩
def vC (most:Int)(pl:Nat)(bU:List ep)(l:List Int):ea:=l4 most pl bU 0 (List.replicate pl []) (I8 l)
def oT (most:Int)(pl:Nat)(bU:List ep)(l:List Int):bq:=⟨pl,(vC most pl bU l).ns,(vC most pl bU l).is⟩
section
variable {most:Int}{pl:Nat}{bU:List ep}{l:List Int}
theorem Od(kb:BY pl bU)(hm:1<=most):CV most pl bU 0 (List.replicate pl []) (I8 l) (vC most pl bU l):=by
 refine TI kb bU 0 _ _ (by simp) (cy _) ⟨rfl,rfl,(fun x U=>by cases U),(fun k v h=>by cases h),(fun k v y h=>by cases h),by show((0:Nat):Int)+1<=most;omega,cW _⟩ (by show(1:Int)<=1;omega) (by simp) (fun s hs=>by rw[wL hs];rfl)
theorem alA{σ:ea}{g:bq}{c:Nat}{x:cR}{dQ:List (List Int)}{L:Nat}(h:tj pl bU σ c x dQ L)(au:g.pl=pl)(ao:g.is=σ.is)(kb:BY pl bU):eu g x=0:=by
 unfold eu;rcases h.rG with⟨aa,ae,aF,bo,eB,ht,lI⟩|⟨aa,ae,aF,bo,eB,ht,lI,A',_⟩|⟨aa,ae,aF,bo,eB,P,s,k,cO,ed,gr,iG,mK,qI,mn⟩
 ·have aL:x.ak.length=0:=by rw[bo];rfl
  have bk:x.ws.length=0:=by rw[eB];rfl
  rw[an (by omega),an (by omega),aE aa,an (by omega),an (by rintro⟨w,hw,q⟩;have:=lI w hw;omega)]
 ·have aL:x.fF.length=0:=by rw[bo];rfl
  rw[aE aa,an (by omega),an (by rintro⟨w,hw,q⟩;have:=A' w hw;omega)]
 ·have dt:=kb P (cb cO);have aO:=eU mn;have aL:x.fF.length=0:=by rw[ae];rfl
  have bk:x.ws.length=0:=by rw[aF];rfl
  have cG:g.is.length=σ.is.length:=by rw[ao]
  rw[an (by omega),aE aa,an (by omega),an (by omega)]
theorem af3(kb:BY pl bU)(hm:1<=most)(K3:most<=200)(rL:1<=pl)(HI:pl<=4)(av:bU.length<=40):h8 (oT most pl bU l)=0:=by
 have dd:=Od (l:=l) kb hm;generalize e6:vC most pl bU l=σ at dd;have aq:oT most pl bU l=⟨pl,σ.ns,σ.is⟩:=by unfold oT;rw[e6]
 rw[aq];have cV:0<σ.ns.length:=dd.lt;have ai5:σ.cI=0:=by rw[dd.cI];rfl
 have HW:=dd.gD.sum;have WX:=dd.gD.uP;have rG:=dd.gD.is;have rD:∀(c:Nat) (x:cR),σ.ns[c]?=some x->∃dQ L,tj pl bU σ c x dQ L:=fun c x U=>by
  obtain⟨y,dQ,L,h⟩:=dd.px c (cy _) (eU U);have:=h.U;rw[U] at this;injection this with this;subst this
  exact⟨dQ,L,h⟩
 obtain⟨es,t1,t2⟩:=dd.ZV (bU.length+1) (-1) 0 (by omega);have RN:=aoZ _ _ _ _ _ _ (σ.ns.length+1) t1 (by show σ.ns.length -0<_;omega);have RN:dN σ.ns (σ.ns.length+1) (-1) 0 0=some (σ.ns.length,es):=RN;have as9:rj es<=40:=adT (by omega) fun e he=>by have:=t2 e he;omega
 obtain⟨F,fJ⟩:=dd.fst;have Oz:∀k,k<σ.is.length->(F k:Int)∈eJ (k:Int) 0 σ.ns/\∀y∈eJ (k:Int) 0 σ.ns,(F k:Int)<=y:=fun k aO=>by
  obtain⟨dH,hP,⟨x,ij,ki,lr⟩,nS⟩:=fJ.at_ k (cy _) (by omega);refine⟨?_,fun y ai=>?_⟩
  ·have:=agO (n:=0) ij ⟨ki,lr⟩;rwa [lC] at this
  ·obtain⟨c,z,bb,a7,b8,fl⟩:=Vh ai;have:=nS c z (cy _) a7 b8 fl;rw[bb];omega
 have RA:∀{i:Nat} {s:List Int},(gC ⟨(pl:Int),σ.ns,σ.is⟩)[i]?=some s->i<σ.is.length/\s=eJ (i:Int) 0 σ.ns:=fun{i s} h=>by
  have ao:i<σ.is.length:=by have:=eU h;rw[uI] at this;exact this
  rw[tc ao] at h;injection h with h
  exact⟨ao,h.symm⟩
 unfold h8;rw[an (by show ¬((pl:Int)<1\/4<(pl:Int)\/σ.ns.length<1\/2000<σ.ns.length\/200<σ.is.length);omega)];rw[an (fun q=>q (alC (g:=⟨(pl:Int),σ.ns,σ.is⟩) fun x U=>by
  obtain⟨c,aC⟩:=kp.1 U;obtain⟨dQ,L,h⟩:=rD c x aC;exact alA h rfl rfl kb))]
 simp only
 rw[RN];simp only
 rw[an (by simp),an (by omega),an (by
  rintro⟨x,U,aO,q⟩;obtain⟨c,aC⟩:=kp.1 U;obtain⟨dQ,L,h⟩:=rD c x aC;rcases h.rG with⟨aa,_⟩|⟨aa,_⟩|⟨aa,ae,aF,bo,eB,P,s,k,cO,ed,gr,iG,mK,qI,mn⟩
  ·omega
  ·omega
  ·apply q
   rw[iG,cx,mn,gr]),an (by
  rintro⟨s,hs,q⟩;obtain⟨i,ao⟩:=kp.1 hs;obtain⟨aa,ae⟩:=RA ao;have:=(Oz i aa).1;rw[<-ae,q] at this;cases this),an (by
  rintro⟨i,s,t,aa,ae,q⟩;obtain⟨bm,a2⟩:=RA aa;obtain⟨b1,b2⟩:=RA ae;obtain⟨f1,f2⟩:=Oz i bm;obtain⟨g1,g2⟩:=Oz (i+1) b1;have jB:=agN f1;have aB:t≠[]:=fun q=>by rw[b2] at q;rw[q] at g1;cases g1
  have lX:=g2 (fj t) (by rw[<-b2];exact ahM aB);have jc:=fJ.up i (i+1) (cy _) (by omega) (by omega);rw[<-a2] at jB;omega)]
end
end
end Go.Opn
namespace Go.Opn
noncomputable section
def ym (vs:List jI)(bU:List ep)(p:Int)(s:List Int)(j:Nat):List (Int×Int):=match bU[j]?,s[j]? with
 |some P,some e=>if P.bZ=p then[((((ku ⟨p,j,s.take j⟩ vs 0).getD 0:Nat):Int),e)] else[]
 |_,_=>[]
def Jq (vs:List jI)(bU:List ep)(p:Int)(s:List Int):List (Int×Int):=(List.range s.length).flatMap (ym vs bU p s)
theorem aoI{vs:List jI}{bU:List ep}{p:Int}{s:List Int}{e:Int}{j:Nat}(h:j<s.length):ym vs bU p (s++[e]) j=ym vs bU p s j:=by
 unfold ym;rw[k1 h,JN (by omega)]
theorem ap7{vs:List jI}{bU:List ep}{p:Int}{s:List Int}{e:Int}:Jq vs bU p (s++[e])=Jq vs bU p s++ym vs bU p (s++[e]) s.length:=by
 unfold Jq;rw[dP,tl,List.range_succ,SD];congr 1
 ·have:∀(l:List Nat),(∀j∈l,j<s.length)->l.flatMap (ym vs bU p (s++[e]))=l.flatMap (ym vs bU p s):=by
   intro l;induction l with
   |nil=>intro _;rfl
   |cons j r aI=>
    intro h;rw[FI,FI,aoI (h j (.head _)),aI fun k aO=>h k (.tail _ aO)]
  exact this _ fun j a'=>SJ.1 a'
 ·simp
theorem aoH{vs:List jI}{bU:List ep}{p:Int}{s:List Int}{e:Int}{P:ep}(h:bU[s.length]?=some P):ym vs bU p (s++[e]) s.length=if P.bZ=p then[((((ku ⟨p,s.length,s⟩ vs 0).getD 0:Nat):Int),e)] else[]:=by
 unfold ym;rw[h,qh,List.take_left'];rfl
theorem alD{P:ep}{i q:Nat}{seen:List (List Int)}{s:List Int}(h:seen[q]?=some s):(kD P i seen)[q]?=some (s++[rX P i q]):=by
 unfold kD;rw[aa3,h];rfl
theorem ap9{pl:Nat}{bU:List ep}{σ:ea}{g:bq}{P:List Int}(BA:g.ns=σ.ns)(aB:Tree g P)(rD:∀(c:Nat) (x:cR),σ.ns[c]?=some x->∃dQ L,tj pl bU σ c x dQ L)(ajC:σ.bO[0]?=some (List.replicate pl [])):
 ∀(n c:Nat),c<=n->∀(x:cR) (dQ:List (List Int)) (L:Nat),tj pl bU σ c x dQ L->∀(q:Nat) (s:List Int),dQ[q]?=some s->gE g P (q:Int) c=Jq σ.vs bU q s:=by
 intro n;induction n with
 |zero=>
  intro c aC x dQ L h q s hs;obtain rfl:c=0:=by omega
  have:=h.kR;rw[ajC] at this;injection this with this;subst this
  have:s=[]:=wL (cb hs);subst this;unfold gE j5;rw[LD aB.root (by omega)];rfl
 |succ n aI=>
  intro c aC x dQ L h q s hs;by_cases ib:c=0
  ·exact aI c (by omega) x dQ L h q s hs
  have lf:c<g.ns.length:=by rw[BA];exact eU h.U
  obtain⟨a,Wu,gK,y,ai,oh⟩:=aB.up c (by omega) lf;have hd:σ.ns[a]?=some y:=by rw[<-BA];exact ai
  obtain⟨kX,Sy,Bw⟩:=rD a y hd;obtain⟨i,ao⟩:=kp.1 oh;obtain⟨_,_,JT,Bc,D6⟩:=Bw.aO i c ao;rw[cx,h.kR] at D6;injection D6 with D6
  subst D6;have WA:q<kX.length:=by have:=eU hs;rw[B'] at this;exact this
  have K9:=dj WA;rw[alD K9] at hs;injection hs with hs
  have hlen:kX[q].length=Sy:=Bw.hle _ (JG WA);have aiv:=aI a (by omega) y kX Sy Bw q _ K9;rw[<-hs,ap7,<-aiv,aoH (by rw[hlen];exact Bc),hlen];by_cases hm:y.k=2/\y.p=(q:Int)
  ·rcases Bw.rG with⟨aa,_⟩|⟨aa,_⟩|⟨aa,ae,aF,bo,eB,q7,c4,k,cO,ed,gr,iG,mK,qI,mn⟩
   ·omega
   ·omega
   ·rw[Bc] at cO;injection cO with cO;subst cO
    have mG:JT.bZ=(q:Int):=by omega
    have ajt:JT.bZ.toNat=q:=by omega
    rw[ajt,K9] at mK;injection mK with mK
    rw[aE mG];have aiu:iD (c:Int) y.ak 0=(i:Int):=(Qo (aB.down a y ai).1 ao).1 rfl;unfold gE j5;rw[B3 Wu gK ai hm,nz,List.reverse_cons];congr 1
    have ug:mj g a=y.i:=by unfold mj;rw[ai]
    rw[ug,aiu,iG,<-mG,mK,qI];have:rX JT i q=(i:Int):=by unfold rX;rw[aE (.inl mG.symm)]
    rw[this];rfl
  ·have ca:JT.bZ≠(q:Int):=by
    intro mG;rcases Bw.rG with⟨aa,_,_,bo,_⟩|⟨_,_,_,_,_,_,_,_,q7,cO,ed⟩|⟨aa,ae,aF,bo,eB,q7,c4,k,cO,ed,gr,iG,mK,qI,mn⟩
    ·rw[bo] at ao;simp at ao
    ·rw[Bc] at cO;injection cO with cO;subst cO;omega
    ·rw[Bc] at cO;injection cO with cO;subst cO
     exact hm ⟨aa,by omega⟩
   rw[an ca,gj];unfold gE j5;rw[zH Wu gK ai hm]
theorem af4{most:Int}{pl:Nat}{bU:List ep}{l:List Int}(kb:BY pl bU)(hm:1<=most){P:List Int}(aB:Tree (oT most pl bU l) P){i:Nat}{y:Int×Int}(ai:(oT most pl bU l).is[i]?=some y){x dR:Int}(U:x∈eJ (i:Int) 0 (oT most pl bU l).ns)(e5:dR∈eJ (i:Int) 0 (oT most pl bU l).ns):
 gE (oT most pl bU l) P y.1 x.toNat=gE (oT most pl bU l) P y.1 dR.toNat:=by
 have dd:=Od (l:=l) kb hm;have rD:∀(c:Nat) (x:cR),(vC most pl bU l).ns[c]?=some x->∃dQ L,tj pl bU (vC most pl bU l) c x dQ L:=fun c x U=>by
  obtain⟨y,dQ,L,h⟩:=dd.px c (cy _) (eU U);have:=h.U;rw[U] at this;injection this with this;subst this
  exact⟨dQ,L,h⟩
 have aj3:=ap9 (g:=oT most pl bU l) rfl aB rD dd.Td;have hd:(vC most pl bU l).is[i]?=some y:=ai;have key:∀x∈eJ (i:Int) 0 (oT most pl bU l).ns,∃(L:Nat) (s:List Int),(vC most pl bU l).vs[i]?=some ⟨y.1,L,s⟩/\gE (oT most pl bU l) P y.1 x.toNat=Jq (vC most pl bU l).vs bU y.1 s:=fun x U=>by
  obtain⟨c,z,aa,ae,aF,bo⟩:=Vh U;obtain⟨dQ,L,aq⟩:=rD c z ae;rcases aq.rG with⟨bl,_⟩|⟨bl,_⟩|⟨bl,bp,bQ,cU,gb,q7,c4,k,cO,ed,gr,iG,mK,qI,mn⟩
  ·omega
  ·omega
  ·have aiy:k=i:=by omega
   subst aiy;rw[hd] at mn;injection mn with mn
   have au:y.1=q7.bZ:=by rw[mn]
   obtain⟨_,ay⟩:=GV qI;rw[Az] at ay;refine⟨L,c4,by rw[au];exact ay,?_⟩;have:=aj3 c c (cW _) z dQ L aq q7.bZ.toNat c4 mK;have c8:((q7.bZ.toNat:Nat):Int)=y.1:=by omega
   rw[c8] at this;rw[aa,lC,cx];exact this
 obtain⟨L,s,bm,a2⟩:=key x U;obtain⟨bN,c4,b1,b2⟩:=key dR e5;rw[bm] at b1;injection b1 with b1;injection b1 with _ _ b1
 rw[a2,b2,b1]
end
end Go.Opn
set_option maxRecDepth 100000
set_option maxHeartbeats 4000000
set_option linter.unusedSimpArgs false
namespace Go.Opn
noncomputable section
open Go.Cre Go.RowKit Go.Proofs
theorem hW.Ri{J:aH}{a:Nat}{cells:List Value}(h:hW [] J a cells):∃e,J a=some (cells,e):=by
 cases h with
 |own h=>cases h
 |fw h=>exact⟨_,h⟩
 |opn h=>cases h
 |h6 h=>cases h
theorem UH{x n:Int}(aP:1<=n):x % n=if x.tmod n<0 then x.tmod n+n else x.tmod n:=by
 have h:=Int.tmod_eq_emod (a:=x) (b:=n);have aa:=MT x (show n≠0 by omega);have ae:=MS x (show 0<n by omega);by_cases q:0<=x\/n ∣ x
 ·rw[aE q] at h
  rw[an (by omega)];omega
 ·rw[an q] at h
  rw[aE (by omega)];omega
def kM(l:List Int)(a:Nat)(n:Int):Nat:=if a<l.length/\1<=n then a+1 else a
theorem yQ{l:List Int}{a:Nat}{n:Int}:l.drop (kM l a n)=fY (l.drop a) n:=by
 unfold kM;by_cases h:a<l.length
 ·rw[ny h]
  show _=if n<1 then _ else _;by_cases q:1<=n
  ·rw[aE ⟨h,q⟩,an (by omega)]
  ·rw[an (fun k=>q k.2),aE (by omega),<-ny h]
 ·rw[an (fun k=>h k.1),Aw (by omega)];rfl
theorem tv{l:List Int}{a:Nat}{n:Int}(h:a<=l.length):kM l a n<=l.length:=by
 unfold kM;split
 ·rename_i q;omega
 ·exact h
section
variable {Q:dD Tryz.prog}{g0:Nat}{J:aH}
theorem Ix{x n:Int}(aP:1<=n)(hm:n<=4611686018427387904):Fn (bd Q g0) 7 [.int .i64 x,.int .i64 n] [] J (fun u m' af=>u=.int .i64 (x % n)/\m'=[]/\J=af):=by
 have cV:=Int.tmod_lt_of_pos x (show 0<n by omega);have j0:=Int.lt_tmod_of_pos x (show 0<n by omega);refine Fn.cH (cM Tryz.func7) rfl rfl fun H=>?_;refine rg ?_;refine I V.az ?_;refine bi ?_;refine aM ?_;refine I V.xf ?_;refine I V.az ?_;refine bi ?_;refine I V.ag ?_;refine I V.aZ ?_;refine ns ?_;refine If (fun dG=>?_) fun dG=>?_
 ·refine rg ?_;refine aM ?_;refine I V.bt ?_;refine I V.az ?_;refine bi ?_;refine aM ?_;refine ns ?_;refine ab.ret ?_;refine c5 ?_;refine⟨?_,rfl,rfl⟩;rw[UH aP];first
   |(have c:=dG;rw[aE dG];rfl)
   |(rw[an dG];rfl)
 ·refine aj ?_;refine ab.skip ?_;refine rg ?_;refine aM ?_;refine ns ?_;refine ab.ret ?_;refine c5 ?_;refine⟨?_,rfl,rfl⟩;rw[UH aP];first
   |(have c:=dG;rw[aE dG];rfl)
   |(rw[an dG];rfl)
abbrev ka(ad:Nat)(cY:Option Addr)(cl:Nat)(l:List Int)(a:Nat):Nat×cC:=(ad,.row [.slice cY l.length cl,.int .i64 (a:Int)] 81)
theorem B7{ad:Nat}{cY:Option Addr}{cl:Nat}{l:List Int}{a:Nat}{n:Int}(av:dI J (.slice cY l.length cl) l)(hE:l.length<=1000000)(a1:a<=l.length)(hm:n<=4611686018427387904):
 Fn (bd Q g0) 30 [.pointer (some ⟨ad,0,none⟩),.int .i64 n] [ka ad cY cl l a] J (fun u m' af=>u=.int .i64 (ej (l.drop a) n)/\m'=[ka ad cY cl l (kM l a n)]/\J=af):=by
 have YT:addrEq cY cY=true:=by obtain⟨e,h⟩:=av;exact h.addr
 have kf:=av.iH [];refine Fn.cH (cM Tryz.func30) rfl rfl fun H=>?_;refine rg ?_;refine I V.az ?_;refine a6 ?_;refine fR [0,1] ?_;refine aj ?_;refine' ab.hl 0 [(18,.bool (decide ((l.length<=a\/n<1))))] ?mW ?n7;case mW=>
  refine ab.DF [] rfl (by kernel_rfl) (bc:=[.val 0,.val 1,.val 2,.val 3,.val 4,.val 5,.val 6,.val 7,.val 8,.val 9,.val 10,.val 11,.val 12,.val 13]) (by kernel_rfl) ?_;refine dk rfl V.ag ?_;refine dk rfl V.pb ?_;refine dk rfl V.ba ?_;refine dk rfl V.aG ?_;refine dk rfl V.ag ?_;refine dk rfl V.pb ?_;refine dk rfl V.ba ?_;refine dk rfl V.aG ?_;refine dk rfl V.bL ?_;refine dk rfl V.aZ ?_;refine dk rfl V.ag ?_;refine ts 15 (fun Oj=>?_) fun Oj=>?_
  ·refine cg rfl ?_;refine cg rfl ?_;refine dk rfl V.aU ?_;refine dv.nil ?_;exact ce
  ·refine df rfl V.ag ?_;refine df rfl V.aZ ?_;refine dk rfl V.aU ?_;refine dv.nil ?_;exact ce
 case n7=>
  refine aj ?_;refine If (fun tx=>?_) fun tx=>?_
  ·refine rg ?_;refine I V.az ?_;refine ns ?_;refine ab.ret ?_;refine'⟨.inr rfl,rfl,_,_,.tmp rfl .nil,bu _,?_⟩;first
    |(have c:=KV
      refine⟨?_,?_,rfl⟩
      ·rw[KV];show _=Value.int .i64 (if n<1 then 0 else x % n);rw[an (by omega)];rfl
      ·show[_]=[_];unfold kM;rw[aE ⟨by omega,by omega⟩];rfl)
    |(refine⟨?_,?_,rfl⟩
      ·rcases tx with q|q
       ·rw[Aw q];rfl
       ·cases c8:l.drop a with
        |nil=>rfl
        |cons y r=>show _=Value.int .i64 (if n<1 then 0 else y % n);rw[aE q];rfl
      ·unfold kM;rw[an (by omega)])
  ·obtain⟨cj,ol,Uk,rfl,ajB,Pk⟩:=kf (by omega);obtain⟨el,ag7⟩:=ajB.Ri;obtain⟨x,U,e4⟩:=Pk a (by omega) (by omega);rw[cx] at U;have KV:l.drop a=x::l.drop (a+1):=by
    have cV:=(dY.1 U).1;rw[ny cV];rw[dj cV] at U;injection U with U;rw[U]
   have e4:nth Uk (ol+a*1)=some (.int .i64 x):=e4;refine ln ?_;refine aM ?_;refine I V.aG ?_;refine I V.bt ?_;refine aM ?_;refine dC ?_;refine ns ?_;refine ab.draw rfl (by kernel_rfl) (bc:=[.val 0,.val 1,.val 2,.val 3,.val 4,.val 5,.val 6,.val 7,.val 8,.val 9,.val 10,.val 11,.bR 12,.val 13]) (by kernel_rfl) ?_;refine cq ?_;refine al rfl V.aG ?_;refine cq ?_;refine al rfl V.aG ?_;refine al rfl V.bt ?_;rw[show((a:Int)+1 -1)=(a:Int) by omega];refine al rfl V.aW ?_;refine al rfl V.aG ?_;refine al rfl V.ag ?_;refine dl rfl (G:=Ix (by omega) hm) (h:=?_);rintro v m' af hle ⟨rfl,rfl,rfl⟩;refine al rfl V.az ?_;refine a8.nil ?_;refine aj ?_;refine ab.ret ?_;refine'⟨.inr rfl,rfl,_,_,.tmp rfl .nil,bu _,?_⟩;first
    |(have c:=KV
      refine⟨?_,?_,rfl⟩
      ·rw[KV];show _=Value.int .i64 (if n<1 then 0 else x % n);rw[an (by omega)];rfl
      ·show[_]=[_];unfold kM;rw[aE ⟨by omega,by omega⟩];rfl)
    |(refine⟨?_,?_,rfl⟩
      ·rcases tx with q|q
       ·rw[Aw q];rfl
       ·cases c8:l.drop a with
        |nil=>rfl
        |cons y r=>show _=Value.int .i64 (if n<1 then 0 else y % n);rw[aE q];rfl
      ·unfold kM;rw[an (by omega)])
end
end
end Go.Opn
namespace Go.Opn
noncomputable section
theorem an0{s:Int}(aa:1<=s)(ae:s<2147483647):(48271*s) % 2147483647≠0:=by
 intro h;have aF:(1899818559*(48271*s)) % 2147483647=0:=by
  rw[Int.mul_emod,h,Int.mul_zero];rfl
 have bo:(1899818559*(48271*s))=s+2147483647*(42704033*s+1*0)+(1899818559*48271 -1 -2147483647*42704033)*s:=by omega
 omega
theorem an1{s:Int}(aa:1<=s)(ae:s<2147483647):1<=(48271*s).tmod 2147483647/\(48271*s).tmod 2147483647<2147483647:=by
 have h:=an0 aa ae;rw[MV (by omega)];omega
theorem tdiv_le{x b t:Int}(aB:0<t)(aa:-(b*t)<=x)(ae:x<=b*t):-b<=x.tdiv t/\x.tdiv t<=b:=by
 by_cases U:0<=x
 ·rw[Sw U];have bm:=Int.ediv_nonneg U (St aB);have a2:=aaY aB ae;omega
 ·have e:x.tdiv t=-((-x) / t):=by
   rw[<-Sw (show 0<=-x by omega),Int.neg_tdiv,Int.neg_neg]
  rw[e];have bm:=Int.ediv_nonneg (show 0<=-x by omega) (St aB);have a2:=aaY aB (show -x<=b*t by omega);omega
end
end Go.Opn

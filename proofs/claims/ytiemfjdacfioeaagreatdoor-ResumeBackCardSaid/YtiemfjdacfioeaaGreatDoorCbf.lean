/- A part of the proof of ResumeBack. -/
import Derived.Test.YtiemfjdacfioeaaGreatDoorCbe
import Derived.Test.YtiemfjdacfioeaaGreatDoorCaz
set_option linter.unusedVariables false
namespace Go.Opn
noncomputable section
theorem aj4{most:Int}{pl:Nat}{bX:List en}{L:Nat}{seen:List (List Int)}{P:en}{bK:eb}(di:jK most (L+1) bK):Mr most pl bX L seen P 0 0 bK bK []:=by
 refine⟨Ext.refl _ _,di,by simp,rfl,fun c bt bw=>by omega,fun f a d aC=>⟨[],rfl,fun e he=>by cases he⟩,fun j d aZ=>by simp at aZ,fun k v aa ae=>?_,⟨fun _=>0,⟨fun k aa ae=>by omega,fun k ft aa ae aG=>by omega⟩⟩⟩;have:=eT ae;omega
theorem Cn{most:Int}{L:Nat}{σ bK:eb}{seen:List (List Int)}(e2:jK most L σ)(t1:bK.ns=σ.ns++[r7])(t2:bK.bR=σ.bR++[seen])
 (t3:(bK.vs=σ.vs/\bK.is=σ.is)\/∃v y,bK.vs=σ.vs++[v]/\bK.is=σ.is++[y]/\v.level=L/\y.1=v.b3/\1<=y.2/\y.2<=3)(t4:(σ.ns.length:Int)+1+bK.cG<=most):jK most (L+1) bK:=by
 refine⟨by rw[t1,t2,dv,dv,e2.bR];rfl,?_,fun x U aU=>?_,fun k v az=>?_,fun k v y az ai=>?_,by rw[t1];simp;omega,?_⟩
 ·rcases t3 with⟨aa,ae⟩|⟨v,y,aa,ae,_⟩
  ·rw[aa,ae];exact e2.is
  ·rw[aa,ae,dv,dv,e2.is];rfl
 ·rw[t1] at U;rcases kX.1 U with q|q
  ·have:=e2.lt x q aU;rcases t3 with⟨aa,ae⟩|⟨v,y,aa,ae,_⟩
   ·rw[aa];exact this
   ·rw[aa];simp;omega
  ·simp at q;subst q;cases aU
 ·by_cases r:k<σ.vs.length
  ·have vN:σ.vs[k]?=some v:=by
    rcases t3 with⟨aa,ae⟩|⟨w,y,aa,ae,_⟩
    ·rw[aa] at az;exact az
    ·rw[aa,AY r] at az;exact az
   rcases e2.use k v vN with q|⟨x,hj,ig,yf⟩
   ·exact .inl (by omega)
   ·exact .inr ⟨x,by rw[t1];exact pc _ hj,ig,yf⟩
  ·have aU:=eT az;rcases t3 with⟨aa,ae⟩|⟨w,y,aa,ae,aG,_⟩
   ·rw[aa] at aU;exact absurd aU r
   ·have:k=σ.vs.length:=by rw[aa] at aU;simp at aU;omega
    subst this;rw[aa,qb] at az;injection az with az;subst az
    exact .inl (by omega)
 ·by_cases r:k<σ.vs.length
  ·have dw:k<σ.is.length:=by rw[e2.is];exact r
   rcases t3 with⟨aa,ae⟩|⟨w,z,aa,ae,_⟩
   ·rw[aa] at az;rw[ae] at ai;exact e2.ok k v y az ai
   ·rw[aa,AY r] at az;rw[ae,AY dw] at ai;exact e2.ok k v y az ai
  ·have aU:=eT az;rcases t3 with⟨aa,ae⟩|⟨w,z,aa,ae,aG,br,eu,gK⟩
   ·rw[aa] at aU;exact absurd aU r
   ·have:k=σ.vs.length:=by rw[aa] at aU;simp at aU;omega
    subst this;rw[aa,qb] at az;injection az with az;subst az
    rw[ae,<-e2.is,qb] at ai;injection ai with ai;subst ai
    exact⟨br,eu,gK⟩
 ·have:=e2.uN;rcases t3 with⟨aa,ae⟩|⟨v,y,aa,ae,_⟩
  ·rw[aa,t1];simp;omega
  ·rw[aa,t1];simp;exact this
theorem JO{most:Int}{pl:Nat}{bX:List en}{L:Nat}{seen:List (List Int)}{σ bK:eb}(e2:jK most L σ)(hW:seen.length=pl)(jB:∀s∈seen,s.length=L)
 (t1:bK.ns=σ.ns++[r7])(t2:bK.bR=σ.bR++[seen])(t3:bK.vs=σ.vs)(wa:bK.is=σ.is)(t4:bK.cG=σ.cG -1):CE most pl bX L seen σ (vn pl σ.ns.length bK):=by
 have di:jK most (L+1) {bK with l:=(og pl bK.l).2}:=Cn e2 t1 t2 (.inl ⟨t3,wa⟩) (by have:=e2.sum;show _+bK.cG<=_;omega);obtain⟨dS,iz⟩:=alO pl bK.l;exact MQ (P:=⟨0,0,0⟩) (k:=0) (bK:={bK with l:=(og pl bK.l).2}) (fB:={bK with l:=(og pl bK.l).2}) (x:=⟨3,0,0,[],[],(og pl bK.l).1⟩) (ds:=[]) e2 (.inl rfl) hW jB (.inl rfl) t1 t2 (.inl ⟨t3,wa⟩) (by show bK.cG=_;rw[t4];simp) (aj4 di) rfl (fun q=>by cases q) (.inl ⟨rfl,rfl,rfl,rfl,rfl,dS,iz⟩)
theorem Nt{α:Type}{l r:List α}{L:Nat}{p:α}(h:l.drop L=p::r):L<l.length/\l[L]?=some p/\l.drop (L+1)=r:=by
 have av:L<l.length:=by
  rcases kY L l.length with q|q
  ·exact q
  ·rw[CL q] at h;cases h
 rw[mO av] at h;injection h with aa ae
 exact⟨av,by rw[de av,aa],ae⟩
theorem YR{p:en}{seen:List (List Int)}{pl:Nat}(h:seen.length=pl)(bD:0<=p.b3)(aa:p.b3<pl):seen[p.b3.toNat]?=some (e' p seen):=by
 have av:p.b3.toNat<seen.length:=by omega
 unfold e';rw[de av];rfl
theorem ZC{k:Int}{ns:List cS}:wb k ns=true↔∃x∈ns,x.k=2/\x.i=k:=by
 unfold wb;rw[Jl];simp
theorem adW{most:Int}{L:Nat}{σ fe:eb}{p:en}{s:List Int}(e2:jK most L σ)(aw:0<=p.b3)(t1:fe.ns=σ.ns++[r7])(t3:fe.vs=σ.vs)(wa:fe.is=σ.is):
 (jf (eC p L s fe).2 p.b3 (eC p L s fe).1).vs=σ.vs/\(jf (eC p L s fe).2 p.b3 (eC p L s fe).1).is=σ.is/\(jf (eC p L s fe).2 p.b3 (eC p L s fe).1).ns=fe.ns/\(jf (eC p L s fe).2 p.b3 (eC p L s fe).1).bR=fe.bR/\(jf (eC p L s fe).2 p.b3 (eC p L s fe).1).cG=fe.cG:=by
 unfold eC;cases aC:kq ⟨p.b3,L,s⟩ fe.vs 0 with
 |some k=>
  simp only
  obtain⟨_,ae⟩:=GC aC;rw[Au,t3] at ae;have hu:wb (k:Int) fe.ns=true:=by
   rw[ZC];rcases e2.use k _ ae with q|⟨x,hj,ig,yf⟩
   ·simp at q
   ·exact⟨x,by rw[t1];exact pc _ hj,ig,yf⟩
  unfold jf;rw[hu];split
  ·exact⟨t3,wa,rfl,rfl,rfl⟩
  ·rw[aE rfl];exact⟨t3,wa,rfl,rfl,rfl⟩
 |none=>
  simp only
  have hu:wb (fe.vs.length:Int) fe.ns=false:=by
   cases h:wb (fe.vs.length:Int) fe.ns with
   |false=>rfl
   |true=>
    rw[ZC] at h;obtain⟨x,hj,ig,yf⟩:=h;rw[t1] at hj;rcases kX.1 hj with q|q
    ·have:=e2.lt x q ig;rw[t3] at yf;omega
    ·simp at q;subst q;cases ig
  unfold jf;simp only
  rw[ap (by
   intro q;rcases q with q|q
   ·omega
   ·apply q
    rw[dv,wa,e2.is,t3];simp),hu,ap (by simp)]
  refine⟨?_,?_,rfl,rfl,rfl⟩
  ·simp;exact t3
  ·simp only
   rw[wa,cy,t3,<-e2.is,List.take_left'];rfl
theorem Ti{most:Int}{pl:Nat}{bX:List en}(j5:BN pl bX):∀(lv:List en) (L:Nat) (seen:List (List Int)) (σ:eb),bX.drop L=lv->L<=bX.length->jK most L σ->1<=σ.cG->seen.length=pl->(∀s∈seen,s.length=L)->CE most pl bX L seen σ (lR most pl lv L seen σ):=by
 intro lv;induction lv with
 |nil=>
  intro L seen σ _ _ e2 aw hW jB;unfold lR;exact JO e2 hW jB rfl rfl rfl rfl rfl
 |cons p lv aK=>
  intro L seen σ aZ bT e2 aw hW jB;obtain⟨oN,dD,xl⟩:=Nt aZ;have mv:=j5 p (cd dD);have D':∀dM σ,jK most (L+1) σ->1<=σ.cG->dM.length=pl->(∀s∈dM,s.length=L+1)->CE most pl bX (L+1) dM σ (lR most pl lv (L+1) dM σ):=fun dM σ a b c d=>aK (L+1) dM σ xl oN a b c d;unfold lR;simp only
  split
  ·exact JO e2 hW jB rfl rfl rfl rfl rfl
  ·split
   ·rename_i aH;split
    ·exact JO e2 hW jB rfl rfl rfl rfl rfl
    ·rename_i hm;generalize pz:({l:=fX (kS seen σ).l 8,cG:=(kS seen σ).cG+p.many,ns:=(kS seen σ).ns,is:=(kS seen σ).is,vs:=(kS seen σ).vs,bR:=(kS seen σ).bR}:eb)=bK;have t1:bK.ns=σ.ns++[r7]:=by rw[<-pz];rfl
     have t2:bK.bR=σ.bR++[seen]:=by rw[<-pz];rfl
     have t3:bK.vs=σ.vs:=by rw[<-pz];rfl
     have wa:bK.is=σ.is:=by rw[<-pz];rfl
     have t4:bK.cG=σ.cG -1+p.many:=by rw[<-pz];rfl
     have hm:(σ.ns.length:Int)+1+(σ.cG -1)+p.many<=most:=by
      have:¬most<(σ.ns.length:Int)+1+(σ.cG -1)+p.many:=hm;omega
     have di:jK most (L+1) bK:=Cn e2 t1 t2 (.inl ⟨t3,wa⟩) (by rw[t4];omega);obtain⟨ds,wn,g1,hd,g3,_⟩:=WX (P:=p) hW jB D' p.many.toNat 0 bK [] [] di (by rw[t4];omega);rw[g1];simp only[me];obtain⟨e3,iD⟩:=g3 aH;have aP:=hd.n;refine MQ (P:=p) (k:=p.many.toNat) (bK:=bK) (ds:=ds) (x:=⟨1,0,0,ds,wn,[]⟩) e2 (.inr dD) hW jB (.inr oN) t1 t2 (.inl ⟨t3,wa⟩) (by rw[t4];omega) hd rfl (fun q=>by cases q) (.inr (.inl ⟨rfl,rfl,rfl,rfl,by show wn.length=ds.length;omega,by show 2<=ds.length;omega,by show ds.length<=3;omega,iD,p,dD,aH⟩))
   ·rename_i aH;have ry:0<=p.b3:=by omega
    generalize HV:({l:=fX (kS seen σ).l 8,cG:=(kS seen σ).cG,ns:=(kS seen σ).ns,is:=(kS seen σ).is,vs:=(kS seen σ).vs,bR:=(kS seen σ).bR}:eb)=fe;have jT:fe.ns=σ.ns++[r7]:=by rw[<-HV];rfl
    have mH:fe.bR=σ.bR++[seen]:=by rw[<-HV];rfl
    have ke:fe.vs=σ.vs:=by rw[<-HV];rfl
    have IU:fe.is=σ.is:=by rw[<-HV];rfl
    have x8:fe.cG=σ.cG -1:=by rw[<-HV];rfl
    split
    ·obtain⟨d1,d2,d3,d4,d5⟩:=adW (s:=e' p seen) e2 ry jT ke IU;exact JO e2 hW jB (d3.trans jT) (d4.trans mH) d1 d2 (d5.trans x8)
    ·rename_i hm
     --E5 set
     obtain⟨v1,v2,v3,v4,v5,v6⟩:(eC p L (e' p seen) fe).1.ns=σ.ns++[r7]/\(eC p L (e' p seen) fe).1.bR=σ.bR++[seen]/\(eC p L (e' p seen) fe).1.cG=σ.cG -1/\
      (((eC p L (e' p seen) fe).1.vs=σ.vs/\(eC p L (e' p seen) fe).1.is=σ.is)\/∃v y,(eC p L (e' p seen) fe).1.vs=σ.vs++[v]/\(eC p L (e' p seen) fe).1.is=σ.is++[y]/\v.level=L/\y.1=v.b3/\1<=y.2/\y.2<=3/\(eC p L (e' p seen) fe).2=σ.vs.length)/\
      kq ⟨p.b3,L,e' p seen⟩ (eC p L (e' p seen) fe).1.vs 0=some (eC p L (e' p seen) fe).2/\
      (eC p L (e' p seen) fe).1.is[(eC p L (e' p seen) fe).2]?=some (p.b3,r4 (eC p L (e' p seen) fe).2 (eC p L (e' p seen) fe).1):=by
      unfold eC;cases aC:kq ⟨p.b3,L,e' p seen⟩ fe.vs 0 with
      |some k=>
       simp only
       obtain⟨_,ae⟩:=GC aC;rw[Au] at ae;have aU:k<σ.is.length:=by rw[e2.is,<-ke];exact eT ae
       have ai:=de aU;have dt:=e2.ok k _ _ (by rw[<-ke];exact ae) ai;refine⟨jT,mH,x8,.inl ⟨ke,IU⟩,aC,?_⟩;unfold r4;rw[IU,ai];simp only
       rw[show p.b3=σ.is[k].1 from dt.1.symm]
      |none=>
       simp only
       have ay:=pB (l:=fe.l) (n:=3) (by omega);refine⟨jT,mH,x8,.inr ⟨_,_,by rw[ke],by rw[IU],rfl,rfl,by show 1<=1+eh fe.l 3;omega,by show 1+eh fe.l 3<=3;omega,by rw[ke]⟩,by rw[aeN aC,ls],?_⟩;unfold r4;simp only
       rw[IU,ke,<-e2.is,qb]
     generalize eC p L (e' p seen) fe=f at*;generalize xy:r4 f.2 f.1=BQ at*;generalize pz:({l:=f.1.l,cG:=f.1.cG+BQ,ns:=f.1.ns,is:=f.1.is,vs:=f.1.vs,bR:=f.1.bR}:eb)=bK;have t1:bK.ns=σ.ns++[r7]:=by rw[<-pz];exact v1
     have t2:bK.bR=σ.bR++[seen]:=by rw[<-pz];exact v2
     have t4:bK.cG=σ.cG -1+BQ:=by rw[<-pz];show f.1.cG+BQ=_;rw[v3]
     have Cq:bK.vs=f.1.vs:=by rw[<-pz]
     have Co:bK.is=f.1.is:=by rw[<-pz]
     have hm:(σ.ns.length:Int)+1+(σ.cG -1)+BQ<=most:=by
      rw[v3] at hm;omega
     have di:jK most (L+1) bK:=Cn e2 t1 t2 (by
      rcases v4 with⟨a,b⟩|⟨v,y,bo,a2,a3,a4,a5,dc,_⟩
      ·exact .inl ⟨Cq.trans a,Co.trans b⟩
      ·exact .inr ⟨v,y,Cq.trans bo,Co.trans a2,a3,a4,a5,dc⟩) (by rw[t4];omega)
     have Rw:=(GC v5).2;rw[Au] at Rw;have xz:=di.ok f.2 _ _ (by rw[Cq];exact Rw) (by rw[Co];exact v6);simp only at xz;obtain⟨ds,wn,g1,hd,_,g4⟩:=WX (P:=p) hW jB D' BQ.toNat 0 bK [] [] di (by rw[t4];omega);rw[g1];simp only[me];rw[g4 ry];have aP:=hd.n;have iK:f.2<bK.vs.length:=by rw[Cq];exact eT Rw
     refine MQ (P:=p) (k:=BQ.toNat) (bK:=bK) (ds:=ds) (x:=⟨2,p.b3,f.2,ds,[],[]⟩) e2 (.inr dD) hW jB (.inr oN) t1 t2 ?_ (by rw[t4];omega) hd rfl (fun _=>⟨by show(0:Int)<=(f.2:Int);omega,by show(f.2:Int)<_;omega⟩) (.inr (.inr ⟨rfl,rfl,rfl,by show 1<=ds.length;omega,by show ds.length<=3;omega,p,e' p seen,f.2,dD,ry,rfl,rfl,YR hW ry (by omega),?_,?_⟩))
     ·rcases v4 with⟨a,b⟩|⟨v,y,bo,a2,a3,a4,a5,dc,cX⟩
      ·exact .inl ⟨Cq.trans a,Co.trans b⟩
      ·exact .inr ⟨v,y,Cq.trans bo,Co.trans a2,a3,rfl,by show(f.2:Int)=_;rw[cX]⟩
     ·exact Uu hd.ext.vs (by rw[Cq];exact v5)
     ·rw[hd.ext.is _ (by rw[Co];exact eT v6),Co,v6];show some (p.b3,BQ)=some (p.b3,(ds.length:Int));congr 2;omega
end
end Go.Opn
namespace Go.Opn
noncomputable section
theorem age{i:Int}{x:cS}:∀{l:List cS} {n a:Nat},l[a]?=some x->x.k=2/\x.i=i->((n+a:Nat):Int)∈eJ i n l:=by
 intro l;induction l with
 |nil=>intro n a h;cases h
 |cons y r aK=>
  intro n a h aU;cases a with
  |zero=>
   simp at h;subst h;unfold eJ;rw[aE aU];exact .head _
  |succ a=>
   have:=aK (n:=n+1) (a:=a) (by simpa using h) aU;rw[show n+1+a=n+(a+1) by omega] at this;unfold eJ;split
   ·exact .tail _ this
   ·exact this
theorem UT{i:Int}:∀{l:List cS} {n:Nat} {x:Int},x∈eJ i n l->∃(c:Nat) (y:cS),x=((n+c:Nat):Int)/\l[c]?=some y/\y.k=2/\y.i=i:=by
 intro l;induction l with
 |nil=>intro n x h;cases h
 |cons y r aK=>
  intro n x h;unfold eJ at h;have Cp:x∈eJ i (n+1) r->∃(c:Nat) (z:cS),x=((n+c:Nat):Int)/\(y::r)[c]?=some z/\z.k=2/\z.i=i:=fun q=>by
   obtain⟨c,z,aa,ae,aG⟩:=aK q;exact⟨c+1,z,by rw[aa];congr 1;omega,by simpa using ae,aG⟩
  split at h
  ·rename_i q;rcases fg.1 h with cI|cI
   ·exact⟨0,y,by rw[cI];rfl,rfl,q.1,q.2⟩
   ·exact Cp cI
  ·exact Cp h
theorem agd{i:Int}:∀{l:List cS} {n:Nat} {y:Int},y∈eJ i n l->fc (eJ i n l)<=y:=by
 intro l;induction l with
 |nil=>intro n y h;cases h
 |cons x r aK=>
  intro n y h;unfold eJ at h ⊢;split
  ·rename_i q;rw[aE q] at h;rcases fg.1 h with cI|cI
   ·rw[cI];exact yn _
   ·have:=YW cI;show(n:Int)<=y;omega
  ·rename_i q;rw[ap q] at h;exact aK h
theorem ag8{s:List Int}(h:s≠[]):fc s∈s:=by
 cases s with
 |nil=>exact absurd rfl h
 |cons x r=>exact .head _
theorem aoj{ns:List cS}:∀(f:Nat) (p d:Int) (n b0:Nat) (e:List gq) (g:Nat),dP ns f p d n=some (b0,e)->b0 -n<g->dP ns g p d n=some (b0,e):=by
 intro f;induction f with
 |zero=>intro p d n b0 e g h;cases h
 |succ f aK=>
  intro p d n b0 e g h aq;have av:=qJ _ _ _ _ _ _ h;obtain⟨g,rfl⟩:∃Kb,g=Kb+1:=⟨g -1,by omega⟩;unfold dP at h ⊢;split at h
  ·cases h
  ·rename_i x U;split at h
   ·cases h
   ·rename_i dn es ae;simp only[cp,dC] at h;obtain⟨rfl,rfl⟩:=h;have c4:=(dX.1 U).1;have key:∀{cs:List Int} {m m1:Nat} {e:List gq},hl (dP ns f n (d+1)) cs m=some (m1,e)->m<=ns.length->m1 -m<g->hl (dP ns g n (d+1)) cs m=some (m1,e):=by
     intro cs;induction cs with
     |nil=>intro m m1 e h _ _;exact h
     |cons c cs P0=>
      intro m m1 e h hm au;rw[wQ] at h ⊢;split at h
      ·cases h
      ·rename_i aH;rw[ap aH];split at h
       ·cases h
       ·rename_i m2 bn g2;have y5:=qJ _ _ _ _ _ _ g2;split at h
        ·cases h
        ·rename_i m3 cP g3;simp only[cp,dC] at h;obtain⟨rfl,rfl⟩:=h;have UC:=AI (fun a b c q=>qJ _ _ _ a b c q) g3 y5.2.1;rw[aK _ _ _ _ _ _ g2 (by omega)];simp only
         rw[P0 g3 y5.2.1 (by omega)]
    rw[key ae (by omega) (by omega)]
theorem adm{b:Int}(au:0<=b){es:List gq}(h:∀e∈es,e.2.1<=b):q7 es<=b:=by
 unfold q7;have key:∀(l:List gq) (m:Int),(∀e∈l,e.2.1<=b)->m<=b->l.foldl (fun m e=>max m e.2.1) m<=b:=by
  intro l;induction l with
  |nil=>intro m _ hm;exact hm
  |cons e r aK=>
   intro m av hm;exact aK _ (fun x U=>av x (.tail _ U)) (Int.max_le.2 ⟨hm,av e (.head _)⟩)
 exact key es 0 h au
theorem akZ{g:bz}:∀{l:List cS},(∀x∈l,ev g x=0)->o3 g l=0:=by
 intro l;induction l with
 |nil=>intro _;rfl
 |cons x r aK=>
  intro h;show(if ev g x≠0 then ev g x else o3 g r)=0;rw[ap (fun q=>q (h x (.head _)))];exact aK fun y ai=>h y (.tail _ ai)
def IP(l:List Int):eb:=⟨l,1,[],[],[],[]⟩
def vt (most:Int)(pl:Nat)(bX:List en)(l:List Int):eb:=lR most pl bX 0 (List.replicate pl []) (IP l)
def oK (most:Int)(pl:Nat)(bX:List en)(l:List Int):bz:=⟨pl,(vt most pl bX l).ns,(vt most pl bX l).is⟩
section
variable {most:Int}{pl:Nat}{bX:List en}{l:List Int}
theorem NR(j5:BN pl bX)(hm:1<=most):CE most pl bX 0 (List.replicate pl []) (IP l) (vt most pl bX l):=by
 refine Ti j5 bX 0 _ _ (by simp) (cB _) ⟨rfl,rfl,(fun x U=>by cases U),(fun k v h=>by cases h),(fun k v y h=>by cases h),by show((0:Nat):Int)+1<=most;omega,cZ _⟩ (by show(1:Int)<=1;omega) (by simp) (fun s af=>by rw[wo af];rfl)
theorem akX{σ:eb}{g:bz}{c:Nat}{x:cS}{dM:List (List Int)}{L:Nat}(h:s6 pl bX σ c x dM L)(aw:g.pl=pl)(ao:g.is=σ.is)(j5:BN pl bX):ev g x=0:=by
 unfold ev;rcases h.rq with⟨aa,ae,aG,br,eu,gK,ks⟩|⟨aa,ae,aG,br,eu,gK,ks,A3,_⟩|⟨aa,ae,aG,br,eu,P,s,k,cI,ei,gN,iZ,mE,qF,l9⟩
 ·have aN:x.ak.length=0:=by rw[br];rfl
  have bn:x.ws.length=0:=by rw[eu];rfl
  rw[ap (by omega),ap (by omega),aE aa,ap (by omega),ap (by rintro⟨w,hw,q⟩;have:=ks w hw;omega)]
 ·have aN:x.fE.length=0:=by rw[br];rfl
  rw[aE aa,ap (by omega),ap (by rintro⟨w,hw,q⟩;have:=A3 w hw;omega)]
 ·have dD:=j5 P (cd cI);have aU:=eT l9;have aN:x.fE.length=0:=by rw[ae];rfl
  have bn:x.ws.length=0:=by rw[aG];rfl
  have cP:g.is.length=σ.is.length:=by rw[ao]
  rw[ap (by omega),aE aa,ap (by omega),ap (by omega)]
theorem afx(j5:BN pl bX)(hm:1<=most)(KJ:most<=200)(zh:1<=pl)(Ps:pl<=4)(av:bX.length<=40):h6 (oK most pl bX l)=0:=by
 have cY:=NR (l:=l) j5 hm;generalize e2:vt most pl bX l=σ at cY;have aq:oK most pl bX l=⟨pl,σ.ns,σ.is⟩:=by unfold oK;rw[e2]
 rw[aq];have c4:0<σ.ns.length:=cY.lt;have aio:σ.cG=0:=by rw[cY.cG];rfl
 have HI:=cY.gE.sum;have Ww:=cY.gE.uN;have rq:=cY.gE.is;have rl:∀(c:Nat) (x:cS),σ.ns[c]?=some x->∃dM L,s6 pl bX σ c x dM L:=fun c x U=>by
  obtain⟨y,dM,L,h⟩:=cY.pp c (cB _) (eT U);have:=h.U;rw[U] at this;injection this with this;subst this
  exact⟨dM,L,h⟩
 obtain⟨es,t1,t2⟩:=cY.Zw (bX.length+1) (-1) 0 (by omega);have Ro:=aoj _ _ _ _ _ _ (σ.ns.length+1) t1 (by show σ.ns.length -0<_;omega);have Ro:dP σ.ns (σ.ns.length+1) (-1) 0 0=some (σ.ns.length,es):=Ro;have asd:q7 es<=40:=adm (by omega) fun e he=>by have:=t2 e he;omega
 obtain⟨F,fQ⟩:=cY.fst;have N':∀k,k<σ.is.length->(F k:Int)∈eJ (k:Int) 0 σ.ns/\∀y∈eJ (k:Int) 0 σ.ns,(F k:Int)<=y:=fun k aU=>by
  obtain⟨dS,iz,⟨x,iX,lJ,nj⟩,mB⟩:=fQ.at_ k (cB _) (by omega);refine⟨?_,fun y ai=>?_⟩
  ·have:=age (n:=0) iX ⟨lJ,nj⟩;rwa [ls] at this
  ·obtain⟨c,z,bd,a6,b9,fN⟩:=UT ai;have:=mB c z (cB _) a6 b9 fN;rw[bd];omega
 have Rc:∀{i:Nat} {s:List Int},(gC ⟨(pl:Int),σ.ns,σ.is⟩)[i]?=some s->i<σ.is.length/\s=eJ (i:Int) 0 σ.ns:=fun{i s} h=>by
  have ao:i<σ.is.length:=by have:=eT h;rw[uG] at this;exact this
  rw[sW ao] at h;injection h with h
  exact⟨ao,h.symm⟩
 unfold h6;rw[ap (by show ¬((pl:Int)<1\/4<(pl:Int)\/σ.ns.length<1\/2000<σ.ns.length\/200<σ.is.length);omega)];rw[ap (fun q=>q (akZ (g:=⟨(pl:Int),σ.ns,σ.is⟩) fun x U=>by
  obtain⟨c,aH⟩:=kj.1 U;obtain⟨dM,L,h⟩:=rl c x aH;exact akX h rfl rfl j5))]
 simp only
 rw[Ro];simp only
 rw[ap (by simp),ap (by omega),ap (by
  rintro⟨x,U,aU,q⟩;obtain⟨c,aH⟩:=kj.1 U;obtain⟨dM,L,h⟩:=rl c x aH;rcases h.rq with⟨aa,_⟩|⟨aa,_⟩|⟨aa,ae,aG,br,eu,P,s,k,cI,ei,gN,iZ,mE,qF,l9⟩
  ·omega
  ·omega
  ·apply q
   rw[iZ,cy,l9,gN]),ap (by
  rintro⟨s,af,q⟩;obtain⟨i,ao⟩:=kj.1 af;obtain⟨aa,ae⟩:=Rc ao;have:=(N' i aa).1;rw[<-ae,q] at this;cases this),ap (by
  rintro⟨i,s,t,aa,ae,q⟩;obtain⟨bo,a2⟩:=Rc aa;obtain⟨bm,bl⟩:=Rc ae;obtain⟨f1,f2⟩:=N' i bo;obtain⟨g1,g2⟩:=N' (i+1) bm;have jT:=agd f1;have aD:t≠[]:=fun q=>by rw[bl] at q;rw[q] at g1;cases g1
  have mH:=g2 (fc t) (by rw[<-bl];exact ag8 aD);have ke:=fQ.up i (i+1) (cB _) (by omega) (by omega);rw[<-a2] at jT;omega)]
end
end
end Go.Opn
namespace Go.Opn
noncomputable section
def x5 (vs:List ju)(bX:List en)(p:Int)(s:List Int)(j:Nat):List (Int×Int):=match bX[j]?,s[j]? with
 |some P,some e=>if P.b3=p then[((((kq ⟨p,j,s.take j⟩ vs 0).getD 0:Nat):Int),e)] else[]
 |_,_=>[]
def I8 (vs:List ju)(bX:List en)(p:Int)(s:List Int):List (Int×Int):=(List.range s.length).flatMap (x5 vs bX p s)
theorem an4{vs:List ju}{bX:List en}{p:Int}{s:List Int}{e:Int}{j:Nat}(h:j<s.length):x5 vs bX p (s++[e]) j=x5 vs bX p s j:=by
 unfold x5;rw[lq h,Sr (by omega)]
theorem apk{vs:List ju}{bX:List en}{p:Int}{s:List Int}{e:Int}:I8 vs bX p (s++[e])=I8 vs bX p s++x5 vs bX p (s++[e]) s.length:=by
 unfold I8;rw[dv,s',List.range_succ,Jm];congr 1
 ·have:∀(l:List Nat),(∀j∈l,j<s.length)->l.flatMap (x5 vs bX p (s++[e]))=l.flatMap (x5 vs bX p s):=by
   intro l;induction l with
   |nil=>intro _;rfl
   |cons j r aK=>
    intro h;rw[Fu,Fu,an4 (h j (.head _)),aK fun k aU=>h k (.tail _ aU)]
  exact this _ fun j ba=>Sl.1 ba
 ·simp
theorem an3{vs:List ju}{bX:List en}{p:Int}{s:List Int}{e:Int}{P:en}(h:bX[s.length]?=some P):x5 vs bX p (s++[e]) s.length=if P.b3=p then[((((kq ⟨p,s.length,s⟩ vs 0).getD 0:Nat):Int),e)] else[]:=by
 unfold x5;rw[h,qb,List.take_left'];rfl
theorem ak0{P:en}{i q:Nat}{seen:List (List Int)}{s:List Int}(h:seen[q]?=some s):(kA P i seen)[q]?=some (s++[rL P i q]):=by
 unfold kA;rw[aaD,h];rfl
theorem apm{pl:Nat}{bX:List en}{σ:eb}{g:bz}{P:List Int}(Bs:g.ns=σ.ns)(aD:Tree g P)(rl:∀(c:Nat) (x:cS),σ.ns[c]?=some x->∃dM L,s6 pl bX σ c x dM L)(aiW:σ.bR[0]?=some (List.replicate pl [])):
 ∀(n c:Nat),c<=n->∀(x:cS) (dM:List (List Int)) (L:Nat),s6 pl bX σ c x dM L->∀(q:Nat) (s:List Int),dM[q]?=some s->gF g P (q:Int) c=I8 σ.vs bX q s:=by
 intro n;induction n with
 |zero=>
  intro c aH x dM L h q s af;obtain rfl:c=0:=by omega
  have:=h.kN;rw[aiW] at this;injection this with this;subst this
  have:s=[]:=wo (cd af);subst this;unfold gF jU;rw[Li aD.root (by omega)];rfl
 |succ n aK=>
  intro c aH x dM L h q s af;by_cases ho:c=0
  ·exact aK c (by omega) x dM L h q s af
  have k8:c<g.ns.length:=by rw[Bs];exact eT h.U
  obtain⟨a,V7,h9,y,ai,n8⟩:=aD.up c (by omega) k8;have hf:σ.ns[a]?=some y:=by rw[<-Bs];exact ai
  obtain⟨hH,Sb,Bn⟩:=rl a y hf;obtain⟨i,ao⟩:=kj.1 n8;obtain⟨_,_,Jw,A6,DQ⟩:=Bn.aU i c ao;rw[cy,h.kN] at DQ;injection DQ with DQ
  subst DQ;have KO:q<hH.length:=by have:=eT af;rw[BY] at this;exact this
  have KQ:=de KO;rw[ak0 KQ] at af;injection af with af
  have hlen:hH[q].length=Sb:=Bn.hle _ (Jo KO);have ahM:=aK a (by omega) y hH Sb Bn q _ KQ;rw[<-af,apk,<-ahM,an3 (by rw[hlen];exact A6),hlen];by_cases hm:y.k=2/\y.p=(q:Int)
  ·rcases Bn.rq with⟨aa,_⟩|⟨aa,_⟩|⟨aa,ae,aG,br,eu,qW,c3,k,cI,ei,gN,iZ,mE,qF,l9⟩
   ·omega
   ·omega
   ·rw[A6] at cI;injection cI with cI;subst cI
    have mw:Jw.b3=(q:Int):=by omega
    have aiN:Jw.b3.toNat=q:=by omega
    rw[aiN,KQ] at mE;injection mE with mE
    rw[aE mw];have ahL:ix (c:Int) y.ak 0=(i:Int):=(PZ (aD.down a y ai).1 ao).1 rfl;unfold gF jU;rw[BS V7 h9 ai hm,nR,List.reverse_cons];congr 1
    have tZ:l5 g a=y.i:=by unfold l5;rw[ai]
    rw[tZ,ahL,iZ,<-mw,mE,qF];have:rL Jw i q=(i:Int):=by unfold rL;rw[aE (.inl mw.symm)]
    rw[this];rfl
  ·have cc:Jw.b3≠(q:Int):=by
    intro mw;rcases Bn.rq with⟨aa,_,_,br,_⟩|⟨_,_,_,_,_,_,_,_,qW,cI,ei⟩|⟨aa,ae,aG,br,eu,qW,c3,k,cI,ei,gN,iZ,mE,qF,l9⟩
    ·rw[br] at ao;simp at ao
    ·rw[A6] at cI;injection cI with cI;subst cI;omega
    ·rw[A6] at cI;injection cI with cI;subst cI
     exact hm ⟨aa,by omega⟩
   rw[ap cc,gg];unfold gF jU;rw[zE V7 h9 ai hm]
theorem afy{most:Int}{pl:Nat}{bX:List en}{l:List Int}(j5:BN pl bX)(hm:1<=most){P:List Int}(aD:Tree (oK most pl bX l) P){i:Nat}{y:Int×Int}(ai:(oK most pl bX l).is[i]?=some y){x dT:Int}(U:x∈eJ (i:Int) 0 (oK most pl bX l).ns)(e1:dT∈eJ (i:Int) 0 (oK most pl bX l).ns):
 gF (oK most pl bX l) P y.1 x.toNat=gF (oK most pl bX l) P y.1 dT.toNat:=by
 have cY:=NR (l:=l) j5 hm;have rl:∀(c:Nat) (x:cS),(vt most pl bX l).ns[c]?=some x->∃dM L,s6 pl bX (vt most pl bX l) c x dM L:=fun c x U=>by
  obtain⟨y,dM,L,h⟩:=cY.pp c (cB _) (eT U);have:=h.U;rw[U] at this;injection this with this;subst this
  exact⟨dM,L,h⟩
 have ajq:=apm (g:=oK most pl bX l) rfl aD rl cY.SQ;have hf:(vt most pl bX l).is[i]?=some y:=ai;have key:∀x∈eJ (i:Int) 0 (oK most pl bX l).ns,∃(L:Nat) (s:List Int),(vt most pl bX l).vs[i]?=some ⟨y.1,L,s⟩/\gF (oK most pl bX l) P y.1 x.toNat=I8 (vt most pl bX l).vs bX y.1 s:=fun x U=>by
  obtain⟨c,z,aa,ae,aG,br⟩:=UT U;obtain⟨dM,L,aq⟩:=rl c z ae;rcases aq.rq with⟨bp,_⟩|⟨bp,_⟩|⟨bp,bC,b5,da,gM,qW,c3,k,cI,ei,gN,iZ,mE,qF,l9⟩
  ·omega
  ·omega
  ·have ahQ:k=i:=by omega
   subst ahQ;rw[hf] at l9;injection l9 with l9
   have aw:y.1=qW.b3:=by rw[l9]
   obtain⟨_,az⟩:=GC qF;rw[Au] at az;refine⟨L,c3,by rw[aw];exact az,?_⟩;have:=ajq c c (cZ _) z dM L aq qW.b3.toNat c3 mE;have c7:((qW.b3.toNat:Nat):Int)=y.1:=by omega
   rw[c7] at this;rw[aa,ls,cy];exact this
 obtain⟨L,s,bo,a2⟩:=key x U;obtain⟨bQ,c3,bm,bl⟩:=key dT e1;rw[bo] at bm;injection bm with bm;injection bm with _ _ bm
 rw[a2,bl,bm]
end
end Go.Opn
set_option maxRecDepth 100000
set_option maxHeartbeats 4000000
set_option linter.unusedSimpArgs false
namespace Go.Opn
noncomputable section
open Go.Cre Go.RowKit Go.Proofs
theorem ij.QS{J:aI}{a:Nat}{cells:List Value}(h:ij [] J a cells):∃e,J a=some (cells,e):=by
 cases h with
 |own h=>cases h
 |fz h=>exact⟨_,h⟩
 |opn h=>cases h
theorem Ub{x n:Int}(aP:1<=n):x % n=if x.tmod n<0 then x.tmod n+n else x.tmod n:=by
 have h:=Int.tmod_eq_emod (a:=x) (b:=n);have aa:=R4 x (show n≠0 by omega);have ae:=R3 x (show 0<n by omega);by_cases q:0<=x\/n ∣ x
 ·rw[aE q] at h
  rw[ap (by omega)];omega
 ·rw[ap q] at h
  rw[aE (by omega)];omega
def kK(l:List Int)(a:Nat)(n:Int):Nat:=if a<l.length/\1<=n then a+1 else a
theorem yH{l:List Int}{a:Nat}{n:Int}:l.drop (kK l a n)=fX (l.drop a) n:=by
 unfold kK;by_cases h:a<l.length
 ·rw[mO h]
  show _=if n<1 then _ else _;by_cases q:1<=n
  ·rw[aE ⟨h,q⟩,ap (by omega)]
  ·rw[ap (fun k=>q k.2),aE (by omega),<-mO h]
 ·rw[ap (fun k=>h k.1),CL (by omega)];rfl
theorem tk{l:List Int}{a:Nat}{n:Int}(h:a<=l.length):kK l a n<=l.length:=by
 unfold kK;split
 ·rename_i q;omega
 ·exact h
section
variable {Q:dI Tryz.prog}{g0:Nat}{J:aI}
theorem Lh{x n:Int}(aP:1<=n)(hm:n<=4611686018427387904):Fn (bb Q g0) 13 [.int .i64 x,.int .i64 n] [] J (fun u m' ag=>u=.int .i64 (x % n)/\m'=[]/\J=ag):=by
 have c4:=Mq x (show 0<n by omega);have jP:=Mo x (show 0<n by omega);refine Fn.cH (cQ Tryz.func13) rfl rfl fun H=>?_;refine rg ?_;refine I V.aA ?_;refine bj ?_;refine aM ?_;refine I V.w1 ?_;refine I V.aA ?_;refine bj ?_;refine I V.ah ?_;refine I V.a1 ?_;refine ns ?_;refine If (fun dR=>?_) fun dR=>?_
 ·refine rg ?_;refine aM ?_;refine I V.bx ?_;refine I V.aA ?_;refine bj ?_;refine aM ?_;refine ns ?_;refine ab.ret ?_;refine c' ?_;refine⟨?_,rfl,rfl⟩;rw[Ub aP];first
   |(have c:=dR;rw[aE dR];rfl)
   |(rw[ap dR];rfl)
 ·refine aj ?_;refine ab.skip ?_;refine rg ?_;refine aM ?_;refine ns ?_;refine ab.ret ?_;refine c' ?_;refine⟨?_,rfl,rfl⟩;rw[Ub aP];first
   |(have c:=dR;rw[aE dR];rfl)
   |(rw[ap dR];rfl)
abbrev j3(ad:Nat)(c1:Option Addr)(cl:Nat)(l:List Int)(a:Nat):Nat×cK:=(ad,.row [.slice c1 l.length cl,.int .i64 (a:Int)] 81)
theorem BW{ad:Nat}{c1:Option Addr}{cl:Nat}{l:List Int}{a:Nat}{n:Int}(av:dG J (.slice c1 l.length cl) l)(hE:l.length<=1000000)(a':a<=l.length)(hm:n<=4611686018427387904):
 Fn (bb Q g0) 30 [.pointer (some ⟨ad,0,none⟩),.int .i64 n] [j3 ad c1 cl l a] J (fun u m' ag=>u=.int .i64 (eh (l.drop a) n)/\m'=[j3 ad c1 cl l (kK l a n)]/\J=ag):=by
 have Yr:addrEq c1 c1=true:=by obtain⟨e,h⟩:=av;exact h.addr
 have j':=av.iB [];refine Fn.cH (cQ Tryz.func30) rfl rfl fun H=>?_;refine rg ?_;refine I V.aA ?_;refine a8 ?_;refine fT [0,1] ?_;refine aj ?_;refine' ab.ht 0 [(18,.bool (decide ((l.length<=a\/n<1))))] ?mT ?n1;case mT=>
  refine ab.Dp [] rfl (by kernel_rfl) (bf:=[.val 0,.val 1,.val 2,.val 3,.val 4,.val 5,.val 6,.val 7,.val 8,.val 9,.val 10,.val 11,.val 12,.val 13]) (by kernel_rfl) ?_;refine dp rfl V.ah ?_;refine dp rfl V.o2 ?_;refine dp rfl V.bc ?_;refine dp rfl V.aF ?_;refine dp rfl V.ah ?_;refine dp rfl V.o2 ?_;refine dp rfl V.bc ?_;refine dp rfl V.aF ?_;refine dp rfl V.bP ?_;refine dp rfl V.a1 ?_;refine dp rfl V.ah ?_;refine th 15 (fun NX=>?_) fun NX=>?_
  ·refine cx rfl ?_;refine cx rfl ?_;refine dp rfl V.aV ?_;refine dx.nil ?_;exact ce
  ·refine dj rfl V.ah ?_;refine dj rfl V.a1 ?_;refine dp rfl V.aV ?_;refine dx.nil ?_;exact ce
 case n1=>
  refine aj ?_;refine If (fun p3=>?_) fun p3=>?_
  ·refine rg ?_;refine I V.aA ?_;refine ns ?_;refine ab.ret ?_;refine'⟨.inr rfl,rfl,_,_,.tmp rfl .nil,bA _,?_⟩;first
    |(have c:=Kz
      refine⟨?_,?_,rfl⟩
      ·rw[Kz];show _=Value.int .i64 (if n<1 then 0 else x % n);rw[ap (by omega)];rfl
      ·show[_]=[_];unfold kK;rw[aE ⟨by omega,by omega⟩];rfl)
    |(refine⟨?_,?_,rfl⟩
      ·rcases p3 with q|q
       ·rw[CL q];rfl
       ·cases c7:l.drop a with
        |nil=>rfl
        |cons y r=>show _=Value.int .i64 (if n<1 then 0 else y % n);rw[aE q];rfl
      ·unfold kK;rw[ap (by omega)])
  ·obtain⟨cg,ol,TQ,rfl,aiV,OY⟩:=j' (by omega);obtain⟨el,agx⟩:=aiV.QS;obtain⟨x,U,e0⟩:=OY a (by omega) (by omega);rw[cy] at U;have Kz:l.drop a=x::l.drop (a+1):=by
    have c4:=(dX.1 U).1;rw[mO c4];rw[de c4] at U;injection U with U;rw[U]
   have e0:nth TQ (ol+a*1)=some (.int .i64 x):=e0;refine nf ?_;refine aM ?_;refine I V.aF ?_;refine I V.bx ?_;refine aM ?_;refine dN ?_;refine ns ?_;refine ab.draw rfl (by kernel_rfl) (bf:=[.val 0,.val 1,.val 2,.val 3,.val 4,.val 5,.val 6,.val 7,.val 8,.val 9,.val 10,.val 11,.bV 12,.val 13]) (by kernel_rfl) ?_;refine cq ?_;refine an rfl V.aF ?_;refine cq ?_;refine an rfl V.aF ?_;refine an rfl V.bx ?_;rw[show((a:Int)+1 -1)=(a:Int) by omega];refine an rfl V.aX ?_;refine an rfl V.aF ?_;refine an rfl V.ah ?_;refine dl rfl (G:=Lh (by omega) hm) (h:=?_);rintro v m' ag hle ⟨rfl,rfl,rfl⟩;refine an rfl V.aA ?_;refine a7.nil ?_;refine aj ?_;refine ab.ret ?_;refine'⟨.inr rfl,rfl,_,_,.tmp rfl .nil,bA _,?_⟩;first
    |(have c:=Kz
      refine⟨?_,?_,rfl⟩
      ·rw[Kz];show _=Value.int .i64 (if n<1 then 0 else x % n);rw[ap (by omega)];rfl
      ·show[_]=[_];unfold kK;rw[aE ⟨by omega,by omega⟩];rfl)
    |(refine⟨?_,?_,rfl⟩
      ·rcases p3 with q|q
       ·rw[CL q];rfl
       ·cases c7:l.drop a with
        |nil=>rfl
        |cons y r=>show _=Value.int .i64 (if n<1 then 0 else y % n);rw[aE q];rfl
      ·unfold kK;rw[ap (by omega)])
end
end
end Go.Opn
namespace Go.Opn
noncomputable section
theorem anl{s:Int}(aa:1<=s)(ae:s<2147483647):(48271*s) % 2147483647≠0:=by
 intro h;have aG:(1899818559*(48271*s)) % 2147483647=0:=by
  rw[Int.mul_emod,h,Int.mul_zero];rfl
 have br:(1899818559*(48271*s))=s+2147483647*(42704033*s+1*0)+(1899818559*48271 -1 -2147483647*42704033)*s:=by omega
 omega
theorem anm{s:Int}(aa:1<=s)(ae:s<2147483647):1<=(48271*s).tmod 2147483647/\(48271*s).tmod 2147483647<2147483647:=by
 have h:=anl aa ae;rw[aaA (by omega)];omega
theorem tdiv_le{x b t:Int}(aD:0<t)(aa:-(b*t)<=x)(ae:x<=b*t):-b<=x.tdiv t/\x.tdiv t<=b:=by
 by_cases U:0<=x
 ·rw[R8 U];have bo:=Int.ediv_nonneg U (R5 aD);have a2:=aaz aD ae;omega
 ·have e:x.tdiv t=-((-x) / t):=by
   rw[<-R8 (show 0<=-x by omega),Int.neg_tdiv,Int.neg_neg]
  rw[e];have bo:=Int.ediv_nonneg (show 0<=-x by omega) (R5 aD);have a2:=aaz aD (show -x<=b*t by omega);omega
end
end Go.Opn

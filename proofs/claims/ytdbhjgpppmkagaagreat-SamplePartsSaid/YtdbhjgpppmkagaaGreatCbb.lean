/- A part of the proof of SampleParts. -/
import Derived.Test.YtdbhjgpppmkagaaGreatCba
set_option linter.unusedVariables false
namespace Go.Opn
noncomputable section
theorem afh{most:Int}{pl:Nat}{bI:List ek}{L:Nat}{seen:List (List Int)}{P:ek}{bo:dX}(c0:jq most (L+1) bo):J1 most pl bI L seen P 0 0 bo bo []:=by
 refine⟨Ext.refl _ _,c0,by simp,rfl,fun c bx bT=>by omega,fun f a d aw=>⟨[],rfl,fun e he=>by cases he⟩,fun j d aS=>by simp at aS,fun k v aa ab=>?_,⟨fun _=>0,⟨fun k aa ab=>by omega,fun k fw aa ab aK=>by omega⟩⟩⟩;have:=hH ab;omega
theorem z8{most:Int}{L:Nat}{σ bo:dX}{seen:List (List Int)}(e1:jq most L σ)(t1:bo.ns=σ.ns++[qU])(t2:bo.a1=σ.a1++[seen])
 (t3:(bo.vs=σ.vs/\bo.is=σ.is)\/∃v y,bo.vs=σ.vs++[v]/\bo.is=σ.is++[y]/\v.level=L/\y.1=v.bQ/\1<=y.2/\y.2<=3)(t4:(σ.ns.length:Int)+1+bo.cz<=most):jq most (L+1) bo:=by
 refine⟨by rw[t1,t2,er,er,e1.a1];rfl,?_,fun x I aH=>?_,fun k v ap=>?_,fun k v y ap ah=>?_,by rw[t1];simp;omega,?_⟩
 ·rcases t3 with⟨aa,ab⟩|⟨v,y,aa,ab,_⟩
  ·rw[aa,ab];exact e1.is
  ·rw[aa,ab,er,er,e1.is];rfl
 ·rw[t1] at I;rcases lL.1 I with q|q
  ·have:=e1.lt x q aH;rcases t3 with⟨aa,ab⟩|⟨v,y,aa,ab,_⟩
   ·rw[aa];exact this
   ·rw[aa];simp;omega
  ·simp at q;subst q;cases aH
 ·by_cases r:k<σ.vs.length
  ·have BG:σ.vs[k]?=some v:=by
    rcases t3 with⟨aa,ab⟩|⟨w,y,aa,ab,_⟩
    ·rw[aa] at ap;exact ap
    ·rw[aa,y4 r] at ap;exact ap
   rcases e1.use k v BG with q|⟨x,h4,hd,oX⟩
   ·exact .inl (by omega)
   ·exact .inr ⟨x,by rw[t1];exact rZ _ h4,hd,oX⟩
  ·have aH:=hH ap;rcases t3 with⟨aa,ab⟩|⟨w,y,aa,ab,aK,_⟩
   ·rw[aa] at aH;exact absurd aH r
   ·have:k=σ.vs.length:=by rw[aa] at aH;simp at aH;omega
    subst this;rw[aa,pd] at ap;injection ap with ap;subst ap
    exact .inl (by omega)
 ·by_cases r:k<σ.vs.length
  ·have b7:k<σ.is.length:=by rw[e1.is];exact r
   rcases t3 with⟨aa,ab⟩|⟨w,z,aa,ab,_⟩
   ·rw[aa] at ap;rw[ab] at ah;exact e1.ok k v y ap ah
   ·rw[aa,y4 r] at ap;rw[ab,y4 b7] at ah;exact e1.ok k v y ap ah
  ·have aH:=hH ap;rcases t3 with⟨aa,ab⟩|⟨w,z,aa,ab,aK,bh,ff,gz⟩
   ·rw[aa] at aH;exact absurd aH r
   ·have:k=σ.vs.length:=by rw[aa] at aH;simp at aH;omega
    subst this;rw[aa,pd] at ap;injection ap with ap;subst ap
    rw[ab,<-e1.is,pd] at ah;injection ah with ah;subst ah
    exact⟨bh,ff,gz⟩
 ·have:=e1.s5;rcases t3 with⟨aa,ab⟩|⟨v,y,aa,ab,_⟩
  ·rw[aa,t1];simp;omega
  ·rw[aa,t1];simp;exact this
theorem G0{most:Int}{pl:Nat}{bI:List ek}{L:Nat}{seen:List (List Int)}{σ bo:dX}(e1:jq most L σ)(h6:seen.length=pl)(iM:∀s∈seen,s.length=L)
 (t1:bo.ns=σ.ns++[qU])(t2:bo.a1=σ.a1++[seen])(t3:bo.vs=σ.vs)(uA:bo.is=σ.is)(t4:bo.cz=σ.cz -1):Ak most pl bI L seen σ (tB pl σ.ns.length bo):=by
 have c0:jq most (L+1) {bo with l:=(nu pl bo.l).2}:=z8 e1 t1 t2 (.inl ⟨t3,uA⟩) (by have:=e1.sum;show _+bo.cz<=_;omega);obtain⟨dS,ho⟩:=ag' pl bo.l;exact KA (P:=⟨0,0,0⟩) (k:=0) (bo:={bo with l:=(nu pl bo.l).2}) (fC:={bo with l:=(nu pl bo.l).2}) (x:=⟨3,0,0,[],[],(nu pl bo.l).1⟩) (ds:=[]) e1 (.inl rfl) h6 iM (.inl rfl) t1 t2 (.inl ⟨t3,uA⟩) (by show bo.cz=_;rw[t4];simp) (afh c0) rfl (fun q=>by cases q) (.inl ⟨rfl,rfl,rfl,rfl,rfl,dS,ho⟩)
theorem K4{α:Type}{l r:List α}{L:Nat}{p:α}(h:l.drop L=p::r):L<l.length/\l[L]?=some p/\l.drop (L+1)=r:=by
 have ay:L<l.length:=by
  rcases jo L l.length with q|q
  ·exact q
  ·rw[Ar q] at h;cases h
 rw[od ay] at h;injection h with aa ab
 exact⟨ay,by rw[du ay,aa],ab⟩
theorem VY{p:ek}{seen:List (List Int)}{pl:Nat}(h:seen.length=pl)(bt:0<=p.bQ)(aa:p.bQ<pl):seen[p.bQ.toNat]?=some (e9 p seen):=by
 have ay:p.bQ.toNat<seen.length:=by omega
 unfold e9;rw[du ay];rfl
theorem WH{k:Int}{ns:List cH}:uB k ns=true↔∃x∈ns,x.k=2/\x.i=k:=by
 unfold uB;rw[J3];simp
theorem aai{most:Int}{L:Nat}{σ dp:dX}{p:ek}{s:List Int}(e1:jq most L σ)(au:0<=p.bQ)(t1:dp.ns=σ.ns++[qU])(t3:dp.vs=σ.vs)(uA:dp.is=σ.is):
 (iK (eE p L s dp).2 p.bQ (eE p L s dp).1).vs=σ.vs/\(iK (eE p L s dp).2 p.bQ (eE p L s dp).1).is=σ.is/\(iK (eE p L s dp).2 p.bQ (eE p L s dp).1).ns=dp.ns/\(iK (eE p L s dp).2 p.bQ (eE p L s dp).1).a1=dp.a1/\(iK (eE p L s dp).2 p.bQ (eE p L s dp).1).cz=dp.cz:=by
 unfold eE;cases aw:ka ⟨p.bQ,L,s⟩ dp.vs 0 with
 |some k=>
  simp only
  obtain⟨_,ab⟩:=DT aw;rw[yt,t3] at ab;have hu:uB (k:Int) dp.ns=true:=by
   rw[WH];rcases e1.use k _ ab with q|⟨x,h4,hd,oX⟩
   ·simp at q
   ·exact⟨x,by rw[t1];exact rZ _ h4,hd,oX⟩
  unfold iK;rw[hu];split
  ·exact⟨t3,uA,rfl,rfl,rfl⟩
  ·rw[aF rfl];exact⟨t3,uA,rfl,rfl,rfl⟩
 |none=>
  simp only
  have hu:uB (dp.vs.length:Int) dp.ns=false:=by
   cases h:uB (dp.vs.length:Int) dp.ns with
   |false=>rfl
   |true=>
    rw[WH] at h;obtain⟨x,h4,hd,oX⟩:=h;rw[t1] at h4;rcases lL.1 h4 with q|q
    ·have:=e1.lt x q hd;rw[t3] at oX;omega
    ·simp at q;subst q;cases hd
  unfold iK;simp only
  rw[aq (by
   intro q;rcases q with q|q
   ·omega
   ·apply q
    rw[er,uA,e1.is,t3];simp),hu,aq (by simp)]
  refine⟨?_,?_,rfl,rfl,rfl⟩
  ·simp;exact t3
  ·simp only
   rw[uA,ea,t3,<-e1.is,List.take_left'];rfl
theorem QT{most:Int}{pl:Nat}{bI:List ek}(jQ:zH pl bI):∀(lv:List ek) (L:Nat) (seen:List (List Int)) (σ:dX),bI.drop L=lv->L<=bI.length->jq most L σ->1<=σ.cz->seen.length=pl->(∀s∈seen,s.length=L)->Ak most pl bI L seen σ (lq most pl lv L seen σ):=by
 intro lv;induction lv with
 |nil=>
  intro L seen σ _ _ e1 au h6 iM;unfold lq;exact G0 e1 h6 iM rfl rfl rfl rfl rfl
 |cons p lv aG=>
  intro L seen σ aS bB e1 au h6 iM;obtain⟨nN,dC,vt⟩:=K4 aS;have lV:=jQ p (cV dC);have sD:∀eR σ,jq most (L+1) σ->1<=σ.cz->eR.length=pl->(∀s∈eR,s.length=L+1)->Ak most pl bI (L+1) eR σ (lq most pl lv (L+1) eR σ):=fun eR σ a b c d=>aG (L+1) eR σ vt nN a b c d;unfold lq;simp only
  split
  ·exact G0 e1 h6 iM rfl rfl rfl rfl rfl
  ·split
   ·rename_i av;split
    ·exact G0 e1 h6 iM rfl rfl rfl rfl rfl
    ·rename_i hm;generalize oE:({l:=gm (kE seen σ).l 8,cz:=(kE seen σ).cz+p.many,ns:=(kE seen σ).ns,is:=(kE seen σ).is,vs:=(kE seen σ).vs,a1:=(kE seen σ).a1}:dX)=bo;have t1:bo.ns=σ.ns++[qU]:=by rw[<-oE];rfl
     have t2:bo.a1=σ.a1++[seen]:=by rw[<-oE];rfl
     have t3:bo.vs=σ.vs:=by rw[<-oE];rfl
     have uA:bo.is=σ.is:=by rw[<-oE];rfl
     have t4:bo.cz=σ.cz -1+p.many:=by rw[<-oE];rfl
     have hm:(σ.ns.length:Int)+1+(σ.cz -1)+p.many<=most:=by
      have:¬most<(σ.ns.length:Int)+1+(σ.cz -1)+p.many:=hm;omega
     have c0:jq most (L+1) bo:=z8 e1 t1 t2 (.inl ⟨t3,uA⟩) (by rw[t4];omega);obtain⟨ds,wn,b4,g8,cg,_⟩:=T6 (P:=p) h6 iM sD p.many.toNat 0 bo [] [] c0 (by rw[t4];omega);rw[b4];simp only[mB];obtain⟨d',gS⟩:=cg av;have aM:=g8.n;refine KA (P:=p) (k:=p.many.toNat) (bo:=bo) (ds:=ds) (x:=⟨1,0,0,ds,wn,[]⟩) e1 (.inr dC) h6 iM (.inr nN) t1 t2 (.inl ⟨t3,uA⟩) (by rw[t4];omega) g8 rfl (fun q=>by cases q) (.inr (.inl ⟨rfl,rfl,rfl,rfl,by show wn.length=ds.length;omega,by show 2<=ds.length;omega,by show ds.length<=3;omega,gS,p,dC,av⟩))
   ·rename_i av;have k9:0<=p.bQ:=by omega
    generalize rs:({l:=gm (kE seen σ).l 8,cz:=(kE seen σ).cz,ns:=(kE seen σ).ns,is:=(kE seen σ).is,vs:=(kE seen σ).vs,a1:=(kE seen σ).a1}:dX)=dp;have iC:dp.ns=σ.ns++[qU]:=by rw[<-rs];rfl
    have iU:dp.a1=σ.a1++[seen]:=by rw[<-rs];rfl
    have iw:dp.vs=σ.vs:=by rw[<-rs];rfl
    have F3:dp.is=σ.is:=by rw[<-rs];rfl
    have wi:dp.cz=σ.cz -1:=by rw[<-rs];rfl
    split
    ·obtain⟨d1,d2,d3,d4,d5⟩:=aai (s:=e9 p seen) e1 k9 iC iw F3;exact G0 e1 h6 iM (d3.trans iC) (d4.trans iU) d1 d2 (d5.trans wi)
    ·rename_i hm
     --sZ set
     obtain⟨v1,v2,jX,v4,oV,v6⟩:(eE p L (e9 p seen) dp).1.ns=σ.ns++[qU]/\(eE p L (e9 p seen) dp).1.a1=σ.a1++[seen]/\(eE p L (e9 p seen) dp).1.cz=σ.cz -1/\
      (((eE p L (e9 p seen) dp).1.vs=σ.vs/\(eE p L (e9 p seen) dp).1.is=σ.is)\/∃v y,(eE p L (e9 p seen) dp).1.vs=σ.vs++[v]/\(eE p L (e9 p seen) dp).1.is=σ.is++[y]/\v.level=L/\y.1=v.bQ/\1<=y.2/\y.2<=3/\(eE p L (e9 p seen) dp).2=σ.vs.length)/\
      ka ⟨p.bQ,L,e9 p seen⟩ (eE p L (e9 p seen) dp).1.vs 0=some (eE p L (e9 p seen) dp).2/\
      (eE p L (e9 p seen) dp).1.is[(eE p L (e9 p seen) dp).2]?=some (p.bQ,qQ (eE p L (e9 p seen) dp).2 (eE p L (e9 p seen) dp).1):=by
      unfold eE;cases aw:ka ⟨p.bQ,L,e9 p seen⟩ dp.vs 0 with
      |some k=>
       simp only
       obtain⟨_,ab⟩:=DT aw;rw[yt] at ab;have aH:k<σ.is.length:=by rw[e1.is,<-iw];exact hH ab
       have ah:=du aH;have g':=e1.ok k _ _ (by rw[<-iw];exact ab) ah;refine⟨iC,iU,wi,.inl ⟨iw,F3⟩,aw,?_⟩;unfold qQ;rw[F3,ah];simp only
       rw[show p.bQ=σ.is[k].1 from g'.1.symm]
      |none=>
       simp only
       have ax:=oJ (l:=dp.l) (n:=3) (by omega);refine⟨iC,iU,wi,.inr ⟨_,_,by rw[iw],by rw[F3],rfl,rfl,by show 1<=1+eg dp.l 3;omega,by show 1+eg dp.l 3<=3;omega,by rw[iw]⟩,by rw[abb aw,lN],?_⟩;unfold qQ;simp only
       rw[F3,iw,<-e1.is,pd]
     generalize eE p L (e9 p seen) dp=f at*;generalize sy:qQ f.2 f.1=vR at*;generalize oE:({l:=f.1.l,cz:=f.1.cz+vR,ns:=f.1.ns,is:=f.1.is,vs:=f.1.vs,a1:=f.1.a1}:dX)=bo;have t1:bo.ns=σ.ns++[qU]:=by rw[<-oE];exact v1
     have t2:bo.a1=σ.a1++[seen]:=by rw[<-oE];exact v2
     have t4:bo.cz=σ.cz -1+vR:=by rw[<-oE];show f.1.cz+vR=_;rw[jX]
     have Ad:bo.vs=f.1.vs:=by rw[<-oE]
     have Ac:bo.is=f.1.is:=by rw[<-oE]
     have hm:(σ.ns.length:Int)+1+(σ.cz -1)+vR<=most:=by
      rw[jX] at hm;omega
     have c0:jq most (L+1) bo:=z8 e1 t1 t2 (by
      rcases v4 with⟨a,b⟩|⟨v,y,bl,bF,bO,b3,c2,cX,_⟩
      ·exact .inl ⟨Ad.trans a,Ac.trans b⟩
      ·exact .inr ⟨v,y,Ad.trans bl,Ac.trans bF,bO,b3,c2,cX⟩) (by rw[t4];omega)
     have OT:=(DT oV).2;rw[yt] at OT;have vC:=c0.ok f.2 _ _ (by rw[Ad];exact OT) (by rw[Ac];exact v6);simp only at vC;obtain⟨ds,wn,b4,g8,_,fJ⟩:=T6 (P:=p) h6 iM sD vR.toNat 0 bo [] [] c0 (by rw[t4];omega);rw[b4];simp only[mB];rw[fJ k9];have aM:=g8.n;have jx:f.2<bo.vs.length:=by rw[Ad];exact hH OT
     refine KA (P:=p) (k:=vR.toNat) (bo:=bo) (ds:=ds) (x:=⟨2,p.bQ,f.2,ds,[],[]⟩) e1 (.inr dC) h6 iM (.inr nN) t1 t2 ?_ (by rw[t4];omega) g8 rfl (fun _=>⟨by show(0:Int)<=(f.2:Int);omega,by show(f.2:Int)<_;omega⟩) (.inr (.inr ⟨rfl,rfl,rfl,by show 1<=ds.length;omega,by show ds.length<=3;omega,p,e9 p seen,f.2,dC,k9,rfl,rfl,VY h6 k9 (by omega),?_,?_⟩))
     ·rcases v4 with⟨a,b⟩|⟨v,y,bl,bF,bO,b3,c2,cX,g5⟩
      ·exact .inl ⟨Ad.trans a,Ac.trans b⟩
      ·exact .inr ⟨v,y,Ad.trans bl,Ac.trans bF,bO,rfl,by show(f.2:Int)=_;rw[g5]⟩
     ·exact RO g8.ext.vs (by rw[Ad];exact oV)
     ·rw[g8.ext.is _ (by rw[Ac];exact hH v6),Ac,v6];show some (p.bQ,vR)=some (p.bQ,(ds.length:Int));congr 2;omega
end
end Go.Opn
namespace Go.Opn
noncomputable section
theorem abR{i:Int}{x:cH}:∀{l:List cH} {n a:Nat},l[a]?=some x->x.k=2/\x.i=i->((n+a:Nat):Int)∈fx i n l:=by
 intro l;induction l with
 |nil=>intro n a h;cases h
 |cons y r aG=>
  intro n a h aH;cases a with
  |zero=>
   simp at h;subst h;unfold fx;rw[aF aH];exact .head _
  |succ a=>
   have:=aG (n:=n+1) (a:=a) (by simpa using h) aH;rw[show n+1+a=n+(a+1) by omega] at this;unfold fx;split
   ·exact .tail _ this
   ·exact this
theorem R9{i:Int}:∀{l:List cH} {n:Nat} {x:Int},x∈fx i n l->∃(c:Nat) (y:cH),x=((n+c:Nat):Int)/\l[c]?=some y/\y.k=2/\y.i=i:=by
 intro l;induction l with
 |nil=>intro n x h;cases h
 |cons y r aG=>
  intro n x h;unfold fx at h;have Ct:x∈fx i (n+1) r->∃(c:Nat) (z:cH),x=((n+c:Nat):Int)/\(y::r)[c]?=some z/\z.k=2/\z.i=i:=fun q=>by
   obtain⟨c,z,aa,ab,aK⟩:=aG q;exact⟨c+1,z,by rw[aa];congr 1;omega,by simpa using ab,aK⟩
  split at h
  ·rename_i q;rcases ft.1 h with cO|cO
   ·exact⟨0,y,by rw[cO];rfl,rfl,q.1,q.2⟩
   ·exact Ct cO
  ·exact Ct h
theorem abQ{i:Int}:∀{l:List cH} {n:Nat} {y:Int},y∈fx i n l->nP (fx i n l)<=y:=by
 intro l;induction l with
 |nil=>intro n y h;cases h
 |cons x r aG=>
  intro n y h;unfold fx at h ⊢;split
  ·rename_i q;rw[aF q] at h;rcases ft.1 h with cO|cO
   ·rw[cO];exact Ap _
   ·have:=V5 cO;show(n:Int)<=y;omega
  ·rename_i q;rw[aq q] at h;exact aG h
theorem ac5{s:List Int}(h:s≠[]):nP s∈s:=by
 cases s with
 |nil=>exact absurd rfl h
 |cons x r=>exact .head _
theorem aj6{ns:List cH}:∀(f:Nat) (p d:Int) (n b5:Nat) (e:List fD) (g:Nat),dW ns f p d n=some (b5,e)->b5 -n<g->dW ns g p d n=some (b5,e):=by
 intro f;induction f with
 |zero=>intro p d n b5 e g h;cases h
 |succ f aG=>
  intro p d n b5 e g h ar;have ay:=qD _ _ _ _ _ _ h;obtain⟨g,rfl⟩:∃Hs,g=Hs+1:=⟨g -1,by omega⟩;unfold dW at h ⊢;split at h
  ·cases h
  ·rename_i x I;split at h
   ·cases h
   ·rename_i dr es ab;simp only[b6,da] at h;obtain⟨rfl,rfl⟩:=h;have cP:=(dv.1 I).1;have key:∀{cs:List Int} {m ct:Nat} {e:List fD},gL (dW ns f n (d+1)) cs m=some (ct,e)->m<=ns.length->ct -m<g->gL (dW ns g n (d+1)) cs m=some (ct,e):=by
     intro cs;induction cs with
     |nil=>intro m ct e h _ _;exact h
     |cons c cs Ng=>
      intro m ct e h hm ai;rw[u0] at h ⊢;split at h
      ·cases h
      ·rename_i av;rw[aq av];split at h
       ·cases h
       ·rename_i eM a5 bX;have w':=qD _ _ _ _ _ _ bX;split at h
        ·cases h
        ·rename_i l1 cC cg;simp only[b6,da] at h;obtain⟨rfl,rfl⟩:=h;have RY:=AM (fun a b c q=>qD _ _ _ a b c q) cg w'.2.1;rw[aG _ _ _ _ _ _ bX (by omega)];simp only
         rw[Ng cg w'.2.1 (by omega)]
    rw[key ab (by omega) (by omega)]
theorem ZW{b:Int}(ai:0<=b){es:List fD}(h:∀e∈es,e.2.1<=b):vc es<=b:=by
 unfold vc;have key:∀(l:List fD) (m:Int),(∀e∈l,e.2.1<=b)->m<=b->l.foldl (fun m e=>max m e.2.1) m<=b:=by
  intro l;induction l with
  |nil=>intro m _ hm;exact hm
  |cons e r aG=>
   intro m ay hm;exact aG _ (fun x I=>ay x (.tail _ I)) (Int.max_le.2 ⟨hm,ay e (.head _)⟩)
 exact key es 0 h ai
theorem agd{g:bp}:∀{l:List cH},(∀x∈l,fh g x=0)->n2 g l=0:=by
 intro l;induction l with
 |nil=>intro _;rfl
 |cons x r aG=>
  intro h;show(if fh g x≠0 then fh g x else n2 g r)=0;rw[aq (fun q=>q (h x (.head _)))];exact aG fun y ah=>h y (.tail _ ah)
def FY(l:List Int):dX:=⟨l,1,[],[],[],[]⟩
def tG (most:Int)(pl:Nat)(bI:List ek)(l:List Int):dX:=lq most pl bI 0 (List.replicate pl []) (FY l)
def nK (most:Int)(pl:Nat)(bI:List ek)(l:List Int):bp:=⟨pl,(tG most pl bI l).ns,(tG most pl bI l).is⟩
section
variable {most:Int}{pl:Nat}{bI:List ek}{l:List Int}
theorem Ln(jQ:zH pl bI)(hm:1<=most):Ak most pl bI 0 (List.replicate pl []) (FY l) (tG most pl bI l):=by
 refine QT jQ bI 0 _ _ (by simp) (dV _) ⟨rfl,rfl,(fun x I=>by cases I),(fun k v h=>by cases h),(fun k v y h=>by cases h),by show((0:Nat):Int)+1<=most;omega,dH _⟩ (by show(1:Int)<=1;omega) (by simp) (fun s al=>by rw[J4 al];rfl)
theorem aga{σ:dX}{g:bp}{c:Nat}{x:cH}{eR:List (List Int)}{L:Nat}(h:rX pl bI σ c x eR L)(au:g.pl=pl)(ak:g.is=σ.is)(jQ:zH pl bI):fh g x=0:=by
 unfold fh;rcases h.p' with⟨aa,ab,aK,bh,ff,gz,ml⟩|⟨aa,ab,aK,bh,ff,gz,ml,y5,_⟩|⟨aa,ab,aK,bh,ff,P,s,k,cO,dI,fK,iT,jC,m3,jD⟩
 ·have aD:x.af.length=0:=by rw[bh];rfl
  have a5:x.ws.length=0:=by rw[ff];rfl
  rw[aq (by omega),aq (by omega),aF aa,aq (by omega),aq (by rintro⟨w,hw,q⟩;have:=ml w hw;omega)]
 ·have aD:x.gw.length=0:=by rw[bh];rfl
  rw[aF aa,aq (by omega),aq (by rintro⟨w,hw,q⟩;have:=y5 w hw;omega)]
 ·have dC:=jQ P (cV cO);have aH:=hH jD;have aD:x.gw.length=0:=by rw[ab];rfl
  have a5:x.ws.length=0:=by rw[aK];rfl
  have cC:g.is.length=σ.is.length:=by rw[ak]
  rw[aq (by omega),aF aa,aq (by omega),aq (by omega)]
theorem aby(jQ:zH pl bI)(hm:1<=most)(EH:most<=200)(k':1<=pl)(sB:pl<=4)(ay:bI.length<=40):kR (nK most pl bI l)=0:=by
 have dF:=Ln (l:=l) jQ hm;generalize e1:tG most pl bI l=σ at dF;have ar:nK most pl bI l=⟨pl,σ.ns,σ.is⟩:=by unfold nK;rw[e1]
 rw[ar];have cP:0<σ.ns.length:=dF.lt;have adU:σ.cz=0:=by rw[dF.cz];rfl
 have BF:=dF.ei.sum;have Tx:=dF.ei.s5;have p':=dF.ei.is;have tU:∀(c:Nat) (x:cH),σ.ns[c]?=some x->∃eR L,rX pl bI σ c x eR L:=fun c x I=>by
  obtain⟨y,eR,L,h⟩:=dF.oq c (dV _) (hH I);have:=h.I;rw[I] at this;injection this with this;subst this
  exact⟨eR,L,h⟩
 obtain⟨es,t1,t2⟩:=dF.Wz (bI.length+1) (-1) 0 (by omega);have OK:=aj6 _ _ _ _ _ _ (σ.ns.length+1) t1 (by show σ.ns.length -0<_;omega);have OK:dW σ.ns (σ.ns.length+1) (-1) 0 0=some (σ.ns.length,es):=OK;have ane:vc es<=40:=ZW (by omega) fun e he=>by have:=t2 e he;omega
 obtain⟨F,fz⟩:=dF.fst;have LK:∀k,k<σ.is.length->(F k:Int)∈fx (k:Int) 0 σ.ns/\∀y∈fx (k:Int) 0 σ.ns,(F k:Int)<=y:=fun k aH=>by
  obtain⟨dS,ho,⟨x,hp,jA,hS⟩,lh⟩:=fz.at_ k (dV _) (by omega);refine⟨?_,fun y ah=>?_⟩
  ·have:=abR (n:=0) hp ⟨jA,hS⟩;rwa [lN] at this
  ·obtain⟨c,z,aZ,aR,bY,ep⟩:=R9 ah;have:=lh c z (dV _) aR bY ep;rw[aZ];omega
 have Ow:∀{i:Nat} {s:List Int},(jE ⟨(pl:Int),σ.ns,σ.is⟩)[i]?=some s->i<σ.is.length/\s=fx (i:Int) 0 σ.ns:=fun{i s} h=>by
  have ak:i<σ.is.length:=by have:=hH h;rw[Cq] at this;exact this
  rw[x2 ak] at h;injection h with h
  exact⟨ak,h.symm⟩
 unfold kR;rw[aq (by show ¬((pl:Int)<1\/4<(pl:Int)\/σ.ns.length<1\/2000<σ.ns.length\/200<σ.is.length);omega)];rw[aq (fun q=>q (agd (g:=⟨(pl:Int),σ.ns,σ.is⟩) fun x I=>by
  obtain⟨c,av⟩:=lM.1 I;obtain⟨eR,L,h⟩:=tU c x av;exact aga h rfl rfl jQ))]
 simp only
 rw[OK];simp only
 rw[aq (by simp),aq (by omega),aq (by
  rintro⟨x,I,aH,q⟩;obtain⟨c,av⟩:=lM.1 I;obtain⟨eR,L,h⟩:=tU c x av;rcases h.p' with⟨aa,_⟩|⟨aa,_⟩|⟨aa,ab,aK,bh,ff,P,s,k,cO,dI,fK,iT,jC,m3,jD⟩
  ·omega
  ·omega
  ·apply q
   rw[iT,ea,jD,fK]),aq (by
  rintro⟨s,al,q⟩;obtain⟨i,ak⟩:=lM.1 al;obtain⟨aa,ab⟩:=Ow ak;have:=(LK i aa).1;rw[<-ab,q] at this;cases this),aq (by
  rintro⟨i,s,t,aa,ab,q⟩;obtain⟨bl,bF⟩:=Ow aa;obtain⟨bE,bS⟩:=Ow ab;obtain⟨f1,f2⟩:=LK i bl;obtain⟨b4,bX⟩:=LK (i+1) bE;have iC:=abQ f1;have aN:t≠[]:=fun q=>by rw[bS] at q;rw[q] at b4;cases b4
  have iU:=bX (nP t) (by rw[<-bS];exact ac5 aN);have iw:=fz.up i (i+1) (dV _) (by omega) (by omega);rw[<-bF] at iC;omega)]
end
end
end Go.Opn
namespace Go.Opn
noncomputable section
def we (vs:List i')(bI:List ek)(p:Int)(s:List Int)(j:Nat):List (Int×Int):=match bI[j]?,s[j]? with
 |some P,some e=>if P.bQ=p then[((((ka ⟨p,j,s.take j⟩ vs 0).getD 0:Nat):Int),e)] else[]
 |_,_=>[]
def F' (vs:List i')(bI:List ek)(p:Int)(s:List Int):List (Int×Int):=(List.range s.length).flatMap (we vs bI p s)
theorem ajJ{vs:List i'}{bI:List ek}{p:Int}{s:List Int}{e:Int}{j:Nat}(h:j<s.length):we vs bI p (s++[e]) j=we vs bI p s j:=by
 unfold we;rw[og h,PX (by omega)]
theorem ak6{vs:List i'}{bI:List ek}{p:Int}{s:List Int}{e:Int}:F' vs bI p (s++[e])=F' vs bI p s++we vs bI p (s++[e]) s.length:=by
 unfold F';rw[er,Gu,PT,List.flatMap_append];congr 1
 ·have:∀(l:List Nat),(∀j∈l,j<s.length)->l.flatMap (we vs bI p (s++[e]))=l.flatMap (we vs bI p s):=by
   intro l;induction l with
   |nil=>intro _;rfl
   |cons j r aG=>
    intro h;rw[PG,PG,ajJ (h j (.head _)),aG fun k aH=>h k (.tail _ aH)]
  exact this _ fun j aU=>wA.1 aU
 ·simp
theorem ajI{vs:List i'}{bI:List ek}{p:Int}{s:List Int}{e:Int}{P:ek}(h:bI[s.length]?=some P):we vs bI p (s++[e]) s.length=if P.bQ=p then[((((ka ⟨p,s.length,s⟩ vs 0).getD 0:Nat):Int),e)] else[]:=by
 unfold we;rw[h,pd,List.take_left'];rfl
theorem agf{P:ek}{i q:Nat}{seen:List (List Int)}{s:List Int}(h:seen[q]?=some s):(kj P i seen)[q]?=some (s++[qq P i q]):=by
 unfold kj;rw[XI,h];rfl
theorem ak7{pl:Nat}{bI:List ek}{σ:dX}{g:bp}{P:List Int}(Bs:g.ns=σ.ns)(aN:Tree g P)(tU:∀(c:Nat) (x:cH),σ.ns[c]?=some x->∃eR L,rX pl bI σ c x eR L)(aec:σ.a1[0]?=some (List.replicate pl [])):
 ∀(n c:Nat),c<=n->∀(x:cH) (eR:List (List Int)) (L:Nat),rX pl bI σ c x eR L->∀(q:Nat) (s:List Int),eR[q]?=some s->kp g P (q:Int) c=F' σ.vs bI q s:=by
 intro n;induction n with
 |zero=>
  intro c av x eR L h q s al;obtain rfl:c=0:=by omega
  have:=h.t';rw[aec] at this;injection this with this;subst this
  have:s=[]:=J4 (cV al);subst this;unfold kp qE;rw[NB aN.root (by omega)];rfl
 |succ n aG=>
  intro c av x eR L h q s al;by_cases k8:c=0
  ·exact aG c (by omega) x eR L h q s al
  have jw:c<g.ns.length:=by rw[Bs];exact hH h.I
  obtain⟨a,Th,q7,y,ah,ri⟩:=aN.up c (by omega) jw;have ld:σ.ns[a]?=some y:=by rw[<-Bs];exact ah
  obtain⟨Om,PD,zk⟩:=tU a y ld;obtain⟨i,ak⟩:=lM.1 ri;obtain⟨_,_,h5,zb,Ba⟩:=zk.aH i c ak;rw[ea,h.t'] at Ba;injection Ba with Ba
  subst Ba;have EP:q<Om.length:=by have:=hH al;rw[zP] at this;exact this
  have Ie:=du EP;rw[agf Ie] at al;injection al with al
  have hlen:Om[q].length=PD:=zk.hle _ (As EP);have adu:=aG a (by omega) y Om PD zk q _ Ie;rw[<-al,ak6,<-adu,ajI (by rw[hlen];exact zb),hlen];by_cases hm:y.k=2/\y.p=(q:Int)
  ·rcases zk.p' with⟨aa,_⟩|⟨aa,_⟩|⟨aa,ab,aK,bh,ff,tc,cZ,k,cO,dI,fK,iT,jC,m3,jD⟩
   ·omega
   ·omega
   ·rw[zb] at cO;injection cO with cO;subst cO
    have lW:h5.bQ=(q:Int):=by omega
    have adY:h5.bQ.toNat=q:=by omega
    rw[adY,Ie] at jC;injection jC with jC
    rw[aF lW];have adt:lf (c:Int) y.af 0=(i:Int):=(aeW (aN.down a y ah).1 ak).1 rfl;unfold kp qE;rw[B1 Th q7 ah hm,k2,List.reverse_cons];congr 1
    have sw:ms g a=y.i:=by unfold ms;rw[ah]
    rw[sw,adt,iT,<-lW,jC,m3];have:qq h5 i q=(i:Int):=by unfold qq;rw[aF (.inl lW.symm)]
    rw[this];rfl
  ·have dR:h5.bQ≠(q:Int):=by
    intro lW;rcases zk.p' with⟨aa,_,_,bh,_⟩|⟨_,_,_,_,_,_,_,_,tc,cO,dI⟩|⟨aa,ab,aK,bh,ff,tc,cZ,k,cO,dI,fK,iT,jC,m3,jD⟩
    ·rw[bh] at ak;simp at ak
    ·rw[zb] at cO;injection cO with cO;subst cO;omega
    ·rw[zb] at cO;injection cO with cO;subst cO
     exact hm ⟨aa,by omega⟩
   rw[aq dR,fb];unfold kp qE;rw[zL Th q7 ah hm]
theorem abz{most:Int}{pl:Nat}{bI:List ek}{l:List Int}(jQ:zH pl bI)(hm:1<=most){P:List Int}(aN:Tree (nK most pl bI l) P){i:Nat}{y:Int×Int}(ah:(nK most pl bI l).is[i]?=some y){x dD:Int}(I:x∈fx (i:Int) 0 (nK most pl bI l).ns)(fe:dD∈fx (i:Int) 0 (nK most pl bI l).ns):
 kp (nK most pl bI l) P y.1 x.toNat=kp (nK most pl bI l) P y.1 dD.toNat:=by
 have dF:=Ln (l:=l) jQ hm;have tU:∀(c:Nat) (x:cH),(tG most pl bI l).ns[c]?=some x->∃eR L,rX pl bI (tG most pl bI l) c x eR L:=fun c x I=>by
  obtain⟨y,eR,L,h⟩:=dF.oq c (dV _) (hH I);have:=h.I;rw[I] at this;injection this with this;subst this
  exact⟨eR,L,h⟩
 have aeG:=ak7 (g:=nK most pl bI l) rfl aN tU dF.Qq;have ld:(tG most pl bI l).is[i]?=some y:=ah;have key:∀x∈fx (i:Int) 0 (nK most pl bI l).ns,∃(L:Nat) (s:List Int),(tG most pl bI l).vs[i]?=some ⟨y.1,L,s⟩/\kp (nK most pl bI l) P y.1 x.toNat=F' (tG most pl bI l).vs bI y.1 s:=fun x I=>by
  obtain⟨c,z,aa,ab,aK,bh⟩:=R9 I;obtain⟨eR,L,ar⟩:=tU c z ab;rcases ar.p' with⟨a',_⟩|⟨a',_⟩|⟨a',bd,bz,cM,ha,tc,cZ,k,cO,dI,fK,iT,jC,m3,jD⟩
  ·omega
  ·omega
  ·have vy:k=i:=by omega
   subst vy;rw[ld] at jD;injection jD with jD
   have au:y.1=tc.bQ:=by rw[jD]
   obtain⟨_,ap⟩:=DT m3;rw[yt] at ap;refine⟨L,cZ,by rw[au];exact ap,?_⟩;have:=aeG c c (dH _) z eR L ar tc.bQ.toNat cZ jC;have cn:((tc.bQ.toNat:Nat):Int)=y.1:=by omega
   rw[cn] at this;rw[aa,lN,ea];exact this
 obtain⟨L,s,bl,bF⟩:=key x I;obtain⟨bw,cZ,bE,bS⟩:=key dD fe;rw[bl] at bE;injection bE with bE;injection bE with _ _ bE
 rw[bF,bS,bE]
end
end Go.Opn
namespace Go.Opn
noncomputable section
structure hV (g:bp):Prop where
 dS:1<=g.pl
 hp:g.pl<=3
 b5:1<=g.ns.length
 dr:g.ns.length<=25
 i2:g.is.length<=25
 tj:∀y∈g.is,1<=y.2/\y.2<=3
 kids:∀(i:Nat) (x:cH),g.ns[i]?=some x->∀c∈x.af,(i:Int)<c/\c<g.ns.length
 kind:∀x∈g.ns,(x.k=3/\x.af=[]/\(x.gw.length:Int)=g.pl/\∀w∈x.gw,-3<=w/\w<=3)\/
  (x.k=1/\x.ws.length=x.af.length/\2<=x.af.length/\x.af.length<=3/\∀w∈x.ws,1<=w/\w<=3)\/
  (x.k=2/\1<=x.af.length/\x.af.length<=3/\0<=x.p/\x.p<g.pl/\∃k:Nat,x.i=(k:Int)/\g.is[k]?=some (x.p,(x.af.length:Int)))
theorem abA{most:Int}{pl:Nat}{bI:List ek}{l:List Int}(jQ:zH pl bI)(hm:1<=most)(EH:most<=25)(k':1<=pl)(sB:pl<=3):hV (nK most pl bI l):=by
 have dF:=Ln (l:=l) jQ hm;generalize e1:tG most pl bI l=σ at dF;have ar:nK most pl bI l=⟨pl,σ.ns,σ.is⟩:=by unfold nK;rw[e1]
 rw[ar];have cP:0<σ.ns.length:=dF.lt;have adU:σ.cz=0:=by rw[dF.cz];rfl
 have BF:=dF.ei.sum;have Tx:=dF.ei.s5;have p':=dF.ei.is;have tU:∀(c:Nat) (x:cH),σ.ns[c]?=some x->∃eR L,rX pl bI σ c x eR L:=fun c x I=>by
  obtain⟨y,eR,L,h⟩:=dF.oq c (dV _) (hH I);have:=h.I;rw[I] at this;injection this with this;subst this
  exact⟨eR,L,h⟩
 refine⟨by show 1<=(pl:Int);omega,by show(pl:Int)<=3;omega,cP,by show σ.ns.length<=25;omega,by show σ.is.length<=25;omega,fun y ah=>?_,fun i x I c av=>?_,fun x I=>?_⟩
 ·obtain⟨k,aH⟩:=lM.1 ah;have ap:=du (l:=σ.vs) (i:=k) (by have:=hH aH;show k<σ.vs.length;rw[<-p'];exact this);exact(dF.ei.ok k _ y ap aH).2
 ·obtain⟨eR,L,h⟩:=tU i x I;obtain⟨j,aU⟩:=lM.1 av;obtain⟨aa,ab,_⟩:=h.aH j c aU;exact⟨aa,ab⟩
 ·obtain⟨c,av⟩:=lM.1 I;obtain⟨eR,L,h⟩:=tU c x av;rcases h.p' with⟨aa,ab,aK,bh,ff,gz,ml⟩|⟨aa,ab,aK,bh,ff,gz,ml,y5,_⟩|⟨aa,ab,aK,bh,ff,P,s,k,cO,dI,fK,iT,jC,m3,jD⟩
  ·exact .inl ⟨aa,bh,by show(x.gw.length:Int)=(pl:Int);omega,ml⟩
  ·exact .inr (.inl ⟨aa,ff,gz,ml,y5⟩)
  ·have dC:=jQ P (cV cO);exact .inr (.inr ⟨aa,bh,ff,by omega,by show x.p<(pl:Int);omega,k,iT,by rw[fK];exact jD⟩)
def kI(g:bp)(l:List (List Int))(cL ak:Int):Prop:=l.length=g.is.length/\∀(i:Nat) (r:List Int) (y:Int×Int),l[i]?=some r->g.is[i]?=some y->(r.length:Int)=y.2/\∀v∈r,cL<=v/\v<=ak
theorem kI.wide{g:bp}{l:List (List Int)}{cL ak oG hQ:Int}(h:kI g l cL ak)(aa:oG<=cL)(ab:ak<=hQ):kI g l oG hQ:=
 ⟨h.1,fun i r y ax ah=>⟨(h.2 i r y ax ah).1,fun v ap=>by have:=(h.2 i r y ax ah).2 v ap;omega⟩⟩
theorem kI.get{g:bp}{l:List (List Int)}{cL ak:Int}(h:kI g l cL ak){i:Nat}{y:Int×Int}(ah:g.is[i]?=some y):∃r,l[i]?=some r/\(r.length:Int)=y.2/\∀(k:Nat) v,r[k]?=some v->cL<=v/\v<=ak:=by
 have ak:i<l.length:=by rw[h.1];exact hH ah
 have ax:=du ak;exact⟨_,ax,(h.2 i _ y ax ah).1,fun k v ap=>(h.2 i _ y ax ah).2 v (cV ap)⟩
theorem kI.row{g:bp}{l:List (List Int)}{cL ak:Int}(h:kI g l cL ak){i:Nat}{r:List Int}(ax:l[i]?=some r):∃y,g.is[i]?=some y/\(r.length:Int)=y.2/\∀(k:Nat) v,r[k]?=some v->cL<=v/\v<=ak:=by
 have ak:i<g.is.length:=by rw[<-h.1];exact hH ax
 have ah:=du ak;exact⟨_,ah,(h.2 i _ _ ax ah).1,fun k v ap=>(h.2 i _ _ ax ah).2 v (cV ap)⟩
theorem kI.len{g:bp}{l:List (List Int)}{cL ak:Int}(ar:hV g)(h:kI g l cL ak):l.length<=25/\∀r∈l,1<=r.length/\r.length<=3:=by
 refine⟨by rw[h.1];exact ar.i2,fun r ax=>?_⟩;obtain⟨i,ak⟩:=lM.1 ax;obtain⟨y,ah,aa,_⟩:=h.row ak;have:=ar.tj y (cV ah);omega
theorem kI.ah6{g:bp}{l:List (List Int)}{cL ak:Int}{i:Nat}{r b7:List Int}(h:kI g l cL ak)(ax:l[i]?=some r)(aa:b7.length=r.length)(ab:∀v∈b7,cL<=v/\v<=ak):kI g (l.set i b7) cL ak:=by
 refine⟨by rw[hW];exact h.1,fun j s y al ah=>?_⟩;rw[j1] at al;split at al
 ·rename_i q;subst q;rw[aF (hH ax)] at al;injection al with al;subst al
  obtain⟨bl,bF⟩:=h.2 i r y ax ah;exact⟨by rw[aa];exact bl,ab⟩
 ·exact h.2 j s y al ah
def jl(g:bp):List (List Int):=g.is.map fun y=>List.replicate y.2.toNat 0
theorem Xi{g:bp}(ar:hV g):kI g (jl g) 0 0:=by
 refine⟨by unfold jl;simp,fun i r y ax ah=>?_⟩;unfold jl at ax;rw[gG,ah] at ax;simp only[C3,b6] at ax;subst ax;have:=ar.tj y (cV ah);refine⟨by rw[kJ];omega,fun v ap=>by rw[J4 ap];omega⟩
def AB(g:bp)(s:List (List Int)):Prop:=kI g s 0 65536/\∀r∈s,r.sum=65536
theorem OH{l:List Int}{k:Nat}{x:Int}(h:l[k]?=some x):(l.take (k+1)).sum=(l.take k).sum+x:=by
 rw[pM,h];simp
theorem ajM{l:List Int}{k:Nat}{x:Int}(h:l[k]?=some x):(l.drop k).sum=x+(l.drop (k+1)).sum:=by
 have aH:=hH h;rw[od aH];have:l[k]=x:=by rw[du aH] at h;injection h
 rw[this];simp
theorem Wq{l:List Int}{k:Nat}:l.sum=(l.take k).sum+(l.drop k).sum:=by
 rw[<-List.sum_append,PW]
theorem z9{l:List Int}(h:∀v∈l,0<=v):0<=l.sum:=by
 induction l with
 |nil=>exact Ap _
 |cons a l aG=>
  have aa:=h a (.head _);have ab:=aG fun v ap=>h v (.tail _ ap);rw[Av];omega
theorem Jy{l:List Int}(h:∀v∈l,0<=v)(k:Nat):0<=(l.take k).sum/\(l.take k).sum<=l.sum:=by
 have aa:=z9 (l:=l.take k) fun v ap=>h v (uM ap);have ab:=z9 (l:=l.drop k) fun v ap=>h v (XM ap);have:=Wq (l:=l) (k:=k);omega
theorem Wo{l:List Int}{b:Int}(h:∀v∈l,v<=b):l.sum<=b*l.length:=by
 induction l with
 |nil=>simp
 |cons a l aG=>
  have aa:=h a (.head _);have ab:=aG fun v ap=>h v (.tail _ ap);rw[Av,j2];have:b*((l.length+1:Nat):Int)=b*l.length+b:=by rw[Int.natCast_add,Gq];simp
  omega
theorem Wp{l:List Int}(h:∀v∈l,0<=v){k:Nat}{x:Int}(I:l[k]?=some x):x<=l.sum:=by
 have aa:=Jy h k;have ab:=z9 (l:=l.drop (k+1)) fun v ap=>h v (XM ap);have aK:=Wq (l:=l) (k:=k);have bh:=ajM I;omega
theorem ajP{l:List Int}{k:Nat}{x y:Int}(h:l[k]?=some x):(l.set k y).sum=l.sum -x+y:=by
 induction l generalizing k with
 |nil=>cases h
 |cons a l aG=>
  cases k with
  |zero=>simp at h;subst h;simp;omega
  |succ k=>simp at h;simp[aG h];omega
end
end Go.Opn

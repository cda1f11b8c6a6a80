/- A part of the proof of SampleParts. -/
import Derived.Test.YtdbhjgpppmkagaaGreatCbq
import Derived.Test.YtdbhjgpppmkagaaGreatCbh
set_option maxRecDepth 100000
set_option maxHeartbeats 8000000
set_option linter.unusedVariables false
set_option linter.unusedSimpArgs false
namespace Go.Opn
noncomputable section
open Go.Cre Go.RowKit Go.Proofs
section
variable {Q:db Tryz.prog}{g0:Nat}{J:aA}
variable {g:bp}{aT bi cT dd:Option Addr}{aP ci ck ac bK cj cE di a1 c7 dh dk c3 dG c8 dn dQ cb e3 gg:Nat}{va dy ee:Value}{p r sd:Int}{cS cy:List Int}{R dE:aI}{D:List (List Int)->aI->Prop}
def pD(F:Nat->hD->Int×hD)(af:List Int)(dp:hD)(a:Nat):List Int×hD:=(af.take a).foldl (fun(ei:List Int×hD) c=>(ei.1++[(F c.toNat ei.2).1],(F c.toNat ei.2).2)) ([],dp)
theorem Wi{F:Nat->hD->Int×hD}{af:List Int}{dp:hD}{a gu:Nat}(h:af[a]?=some (gu:Int)):pD F af dp (a+1)=((pD F af dp a).1++[(F gu (pD F af dp a).2).1],(F gu (pD F af dp a).2).2):=by
 unfold pD;rw[pM,h,PH];show(_++[(F (gu:Int).toNat _).1],(F (gu:Int).toNat _).2)=_;rw[ea]
theorem uo{α:Type}{L:List α}{i:Nat}{x:α}(h:L[i]?=some x):L.Perm (x::L.eraseIdx i):=by
 have:=ahb (pre:=[]) (R:=[]) h;simpa using this
theorem I8{α:Type}{L:List α}{i:Nat}{x y:α}(h:L[i]?=some x):(L.set i y).Perm (y::L.eraseIdx i):=by
 have:=ahc (pre:=[]) (R:=[]) (y:=y) h;simpa using this
theorem fk.Fg{J:aA}{e:TypeId}{b:Option Addr}{n c i:Nat}{cr:List (List Int)}{bs:aI}(h:fk nA J e (.slice b n c) cr bs)(ak:i<cr.length):∃a off cells bn ad l r,b=some ⟨a,off,none⟩/\J a=some (cells,bn)/\cr[i]?=some l/\nth cells (off+i*1)=some (.slice (some ⟨ad,0,none⟩) l.length cR)/\bs[i]?=some (iv ad l r)/\
 ∀(l':List Int) (b7:List Nat),l'.length=l.length->fk nA J e (.slice b n c) (cr.set i l') (bs.set i (iv ad l' b7)):=by
 obtain⟨b',b1,ap,ab⟩:=h.at;injection ap with M' ub Na
 subst M';subst ub;subst Na;obtain⟨a,off,cells,bn,rfl,a',bd⟩:=ab (by omega);obtain⟨l,w,x,aZ,aR,bY,ep,gl⟩:=bd i ak;obtain⟨ad,r,rfl,rfl⟩:=ep;exact⟨a,off,cells,bn,ad,l,r,rfl,a',aZ,aR,bY,fun l' b7 de=>gl _ _ ⟨ad,b7,by rw[de],rfl⟩⟩
theorem W1{S pl:List (List Int)}{fA:Int->Int}{cells:List Value}{e:TypeId}{pU:Nat}(hw:hV g)(aw:uJ g)(ar:hB J g aT aP bi ci)(aC:AB g S)(k9:0<=p)(k':p<g.pl)(rj:dn=g.ns.length)(adP:e3=g.is.length)(ML:dk=g.is.length)(adM:dG=g.is.length)(adO:cE=g.ns.length+g.is.length)(adN:c7=g.ns.length+g.is.length)
 (jP:J cj=some (cells,e))(sq:∀(i:Nat) (x:cH),g.ns[i]?=some x->x.k=1->∃b c,nth cells i=some (.slice b x.ws.length c)/\ew J (.slice b x.ws.length c) (hF x.ws))(Em:fk k1 J 22 (.slice (some ⟨cj,g.ns.length,none⟩) g.is.length pU) (S.map hF) R)
 (gA:fk k1 J 22 (.slice dd dG c8) S dE)
 (HA:∀(i:Nat) (x:cH),g.ns[i]?=some x->x.k=1->cy[i]?=some (fA i))(HB:∀(k:Nat) (y:Int×Int),g.is[k]?=some y->y.1≠p->cy[g.ns.length+k]?=some (fA (g.ns.length+k))):
 ∀(f:Nat) (iQ d:Int) (i n:Nat) (es:List fD),dW g.ns f iQ d i=some (n,es)->n<=g.ns.length->∀(σ:hD) (m:Nat),ht g σ.sum pl m->m+225*f<=100000->σ.seen.length=e3->th (a2 Q g0) J g.ns.length ck ac (fun cG eX cu=>[(ck,.row (ed ac va r sd cT dk c3 ee dd dG c8 bK dn dQ cS) 73),(ac,.row (c6 g aT aP bi ci dy p cj cE di a1 c7 dh (.slice (some ⟨cb,0,none⟩) e3 gg)) 80),bM bK cG,bM a1 cy,eU cb eX]++(R++(dE++cu))) (fun cr cu=>fk nA J 22 (.slice cT dk c3) cr cu) i (g4 g S p fA f i σ).1 σ (g4 g S p fA f i σ).2
 |0,iQ,d,i,n,es,h=>by cases h
 |f+1,iQ,d,i,n,es,h=>by
  intro ang σ m al hm hR;have aN:=NW aw;have dr:=hw.dr;have i2:=hw.i2;have bt:=h;unfold dW at h;split at h
  ·cases h
  ·rename_i x I
   split at h
   ·cases h
   ·rename_i b5 sc aa
    injection h with h;injection h with aD a5;subst aD
    have np:=cV I;have jg:=(dv.1 I).1;have vz:=hw.kids i x I;have sD:∀a n es,dW g.ns f i (d+1) a=some (n,es)->a<n:=fun a n es q=>F2 f _ _ a n es q;have aG:=fun(a n':Nat) (hG:List fD) (q:dW g.ns f i (d+1) a=some (n',hG)) (Vx:n'<=g.ns.length) (e4:hD) (m':Nat) (a':ht g e4.sum pl m') (bd:m'+225*f<=100000) (bz:e4.seen.length=e3)=>W1 hw aw ar aC k9 k' rj adP ML adM adO adN jP sq Em gA HA HB f _ _ a n' hG q Vx e4 m' a' bd bz;obtain⟨aZ,aR⟩:=AL sD _ _ _ _ aa;unfold g4;rw[I];simp only
    by_cases zn:x.k=3
    ·rw[aF zn]
     exact akE hw ar I zn k9 k' rj
    ·rw[aq zn]
     by_cases oz:x.k=2
     ·obtain⟨k,vy,ah⟩:∃k:Nat,x.i=(k:Int)/\g.is[k]?=some (x.p,(x.af.length:Int)):=by
        rcases hw.kind x np with⟨a',_⟩|⟨a',_⟩|⟨_,_,_,_,_,h⟩
        ·omega
        ·omega
        ·exact h
      have df:1<=x.af.length/\x.af.length<=3:=by
        rcases hw.kind x np with⟨h,_⟩|⟨h,_⟩|⟨_,h,jf,_⟩
        ·omega
        ·omega
        ·exact⟨h,jf⟩
      have S1:=(dv.1 ah).1;have Bl:x.i.toNat=k:=by omega
      obtain⟨et,HH,xc,xb⟩:=aC.1.get ah;have Ep:=aC.2 et (cV HH);have HG:S.getD k []=et:=by rw[oe,HH];rfl
      have Sp:∀w∈et,0<=w/\w<=65536:=fun w Nb=>by
        obtain⟨a,aW⟩:=uL Nb;exact xb a w aW
      by_cases zB:x.p=p
      ·rw[aF ⟨oz,zB⟩,aF oz,Bl]
       obtain⟨dp,rs⟩:∃dp:hD,dp=⟨σ.seen.set k true,σ.sum⟩:=⟨_,rfl⟩;rw[<-rs];have Mm:x.af.foldl (fun(ei:List Int×hD) c=>(ei.1++[(g4 g S p fA f c.toNat ei.2).1],(g4 g S p fA f c.toNat ei.2).2)) ([],dp)=pD (g4 g S p fA f) x.af dp x.af.length:=by unfold pD;rw[Aw]
       rw[Mm,HG];have gi:∀a,a<=x.af.length->ht g (pD (g4 g S p fA f) x.af dp a).2.sum pl (m+75*a)/\(pD (g4 g S p fA f) x.af dp a).2.seen.length=e3/\∀v∈(pD (g4 g S p fA f) x.af dp a).1,-3072<=v/\v<=3072:=by
         intro a;induction a with
         |zero=>
          intro _;refine⟨?_,?_,fun v ap=>by cases ap⟩
          ·show ht g dp.sum pl (m+75*0);rw[rs];exact al
          ·show dp.seen.length=e3;rw[rs];show(σ.seen.set k true).length=e3;rw[hW];exact hR
         |succ a Nf=>
          intro aW;obtain⟨a',bd,bz⟩:=Nf (by omega);have av:=du (l:=x.af) (i:=a) (by omega);obtain⟨gu,n',hG,bx,bT,dA,nE⟩:=aR _ (cV av);rw[bx] at av;obtain⟨v1,v2,jX⟩:=JH (fA:=fA) hw aC k9 k' f _ _ gu n' hG bT _ _ a';have q9:=F2 _ _ _ _ _ _ bT;have zs:b5<=25:=by omega
          rw[Wi av];refine⟨v2.wide (by omega),jX.trans bd,fun v ap=>?_⟩;rcases lL.1 ap with q|q
          ·exact bz v q
          ·rw[List.mem_singleton.1 q];exact v1
       obtain⟨iC,iU,iw⟩:=gi x.af.length (dH _);obtain⟨Jx,EY,Tp,EX⟩:=iC.1.get ah;have EW:(pD (g4 g S p fA f) x.af dp x.af.length).2.sum.getD k []=Jx:=by rw[oe,EY];rfl
       have aco:S.length=g.is.length:=aC.1.1;obtain⟨mJ,agr,Y5,AR,al2,an6,hp,jA,hS,lh,Ca,_⟩:=gA.BQ (i:=k) (by omega);rw[HH] at hS;injection hS with hS
       subst hS;refine akG (aQ:=fun a=>pD (g4 g S p fA f) x.af dp a) hw ar I oz zB vy (by omega) (by omega) hR rj (aN.down i x I).1 (by rw[<-rs];rfl) (fun a gu av=>?_) iw ⟨mJ,agr,Y5,AR,hp,jA,by omega,lh⟩ (uo Ca) (by omega) Sp Ep (fun cu k7=>?_) (by rw[EW];omega) (fun w Il=>?_)
       ·have aW:=(dv.1 av).1
        obtain⟨a',bd,bz⟩:=gi a (by omega);obtain⟨ZB,n',hG,bx,bT,dA,nE⟩:=aR _ (cV av);obtain rfl:gu=ZB:=by omega
        exact⟨_,_,Wi av,aG gu n' hG bT (by omega) _ _ a' (by omega) bd⟩
       ·obtain⟨r3,ags,Y7,yR,X8,afm,cw,fK,iT,jC,m3,jD,Oc⟩:=fk.Fg (i:=k) k7 (by have:=(dv.1 EY).1;exact this)
        have Ob:some Jx=some afm:=EY.symm.trans jC;injection Ob with Ob
        subst Ob;show ∃jb cw me,Kf J cT dk k jb ((pD (g4 g S p fA f) x.af dp x.af.length).2.sum.getD k [])/\_;rw[EW];exact⟨X8,cw,cu.eraseIdx k,⟨r3,ags,Y7,yR,fK,iT,by omega,m3⟩,uo jD,fun l' g1 de=>⟨_,Oc l' g1 (by rw[de]),I8 jD⟩⟩
       ·have Il:w∈(pD (g4 g S p fA f) x.af dp x.af.length).2.sum.getD k []:=Il
        rw[EW] at Il;obtain⟨q,cn⟩:=uL Il;have:=EX q w cn;omega
      ·rw[aq (fun q=>zB q.2),aF oz,Bl]
       unfold xT Cf;rw[aF oz,aF oz,Bl,HG,vy];have aco:S.length=g.is.length:=aC.1.1;obtain⟨Qb,ga,cells',bn,ad,l,bY,ep,gl,kY,pA,_⟩:=Em.BQ (i:=k) (by rw[ig];omega);injection bY with bY
       injection bY with aib aic
       subst aib;subst aic;rw[jP] at ep;injection ep with ep
       injection ep with aid aor
       subst aid;rw[gG,HH] at gl;injection gl with gl
       subst gl;rw[tv,s'] at kY;have dq:rJ et (fA ((g.ns.length:Int)+(k:Int)))<x.af.length:=by
         have:=N3 (w:=et) (n:=fA ((g.ns.length:Int)+(k:Int))) (by omega);omega
       have av:=du dq;obtain⟨gu,n',hG,bx,bT,dA,nE⟩:=aR _ (cV av);rw[bx] at av;rw[oe,av];show th _ _ _ _ _ _ _ _ (g4 g S p fA f (gu:Int).toNat _).1 _ (g4 g S p fA f (gu:Int).toNat _).2;rw[ea];exact akF hw ar I oz zB vy (by omega) (by omega) hR rj jP (by omega) (by omega) kY (uo pA) (by omega) (fun w h=>(Sp w h).1) (HB k _ ah zB) av (aG gu n' hG bT (by omega) ⟨σ.seen.set k true,σ.sum⟩ m al (by omega) (by rw[hW];exact hR))
     ·have Bj:x.k=1:=by
        rcases hw.kind x np with⟨h,_⟩|⟨h,_⟩|⟨h,_⟩
        ·omega
        ·exact h
        ·omega
      rw[aq (fun q=>oz q.1),aq oz];unfold xT Cf;rw[aq oz,aq oz];have BI:x.ws.length=x.af.length/\2<=x.af.length:=by
        rcases hw.kind x np with⟨h,_⟩|⟨_,h,jf,_⟩|⟨h,_⟩
        ·omega
        ·exact⟨h,jf⟩
        ·omega
      have dq:rJ x.ws (fA (i:Int))<x.af.length:=by
        have:=N3 (w:=x.ws) (n:=fA (i:Int)) (by omega);omega
      have av:=du dq;obtain⟨gu,n',hG,bx,bT,dA,nE⟩:=aR _ (cV av);rw[bx] at av;rw[oe,av];show th _ _ _ _ _ _ _ _ (g4 g S p fA f (gu:Int).toNat _).1 _ (g4 g S p fA f (gu:Int).toNat _).2;rw[ea];obtain⟨b,c,cO,dI⟩:=sq i x I Bj;exact akD hw ar I Bj rj jP (by omega) (by omega) cO dI (HA i x I Bj) av (aG gu n' hG bT (by omega) σ m al (by omega) hR)
end
end
end Go.Opn
namespace Go.Opn
noncomputable section
def oR(s:Int):Nat->Int
 |0=>s
 |k+1=>mx (oR s k)
theorem FV{s:Int}(aa:1<=s)(ab:s<2147483647):∀k,1<=oR s k/\oR s k<2147483647
 |0=>⟨aa,ab⟩
 |k+1=>Ou (FV aa ab k).1 (FV aa ab k).2
theorem Ot{s:Int}:∀k,oR (mx s) k=oR s (k+1)
 |0=>rfl
 |k+1=>fl mx (Ot k)
theorem Ro{W:Int->List Int}:∀(fq:List Int) (s:Int),(fT W fq s).2=oR s fq.length
 |[],s=>rfl
 |q::fq,s=>(Ro fq (mx s)).trans (Ot _)
theorem Rq{W:Int->List Int}:∀(fq:List Int) (s:Int),(fT W fq s).1.length=fq.length
 |[],s=>rfl
 |q::fq,s=>fl (·+1) (Rq fq (mx s))
theorem Rp{W:Int->List Int}:∀{fq:List Int} {s q:Int} {k:Nat},fq[k]?=some q->(fT W fq s).1[k]?=some (q,(oR s (k+1)).tmod (W q).sum)
 |[],s,q,k,h=>by cases h
 |x::fq,s,q,0,h=>by injection h with h;subst h;rfl
 |x::fq,s,q,k+1,h=>by
  have:=Rp (W:=W) (s:=mx s) (k:=k) (show fq[k]?=some q from h);rw[Ot] at this;exact this
theorem Hf{W:Int->List Int}:∀(fq:List Int) (s:Int),(fT W fq s).1.map (·.1)=fq
 |[],s=>rfl
 |q::fq,s=>fl (q::·) (Hf fq (mx s))
def m4(cy:List Int)(l:List (Int×Int)):List Int:=l.foldl (fun a y=>a.set y.1.toNat y.2) cy
theorem Jt:∀{l:List (Int×Int)} {cy:List Int},(m4 cy l).length=cy.length
 |[],cy=>rfl
 |y::l,cy=>by show(m4 (cy.set y.1.toNat y.2) l).length=_;rw[Jt,hW]
def w1(W:Int->List Int)(h5:List Int)(s:Int)(cy:List Int)(k:Nat):List Int:=m4 cy ((fT W h5 s).1.take k)
theorem aab{W:Int->List Int}{h5 cy:List Int}{s:Int}{k:Nat}:(w1 W h5 s cy k).length=cy.length:=Jt
theorem aac{W:Int->List Int}{h5 cy:List Int}{s q:Int}{k:Nat}(h:h5[k]?=some q):(w1 W h5 s cy k).set q.toNat ((oR s (k+1)).tmod (W q).sum)=w1 W h5 s cy (k+1):=by
 unfold w1 m4;rw[pM,Rp h,PH];rfl
theorem V1:∀{l:List (Int×Int)} {cy:List Int} {q:Int},0<=q->(∀y∈l,0<=y.1)->q∉l.map (·.1)->(m4 cy l)[q.toNat]?=cy[q.toNat]?
 |[],cy,q,_,_,_=>rfl
 |y::l,cy,q,bt,aa,ab=>by
  show(m4 (cy.set y.1.toNat y.2) l)[q.toNat]?=_;rw[k2,ft,not_or] at ab;have:=aa y (.head _);rw[V1 bt (fun z bC=>aa z (.tail _ bC)) ab.2,j1,aq (by omega)]
theorem V2:∀{l:List (Int×Int)} {cy:List Int} {q:Int},(l.map (·.1)).Nodup->(∀y∈l,0<=y.1/\y.1<cy.length)->q∈l.map (·.1)->(m4 cy l)[q.toNat]?=some (kC l q)
 |[],cy,q,_,_,h=>by cases h
 |y::l,cy,q,aM,ai,cn=>by
  show(m4 (cy.set y.1.toNat y.2) l)[q.toNat]?=_;rw[k2,r0] at aM;have ah:=ai y (.head _);by_cases e:q=y.1
  ·subst e;rw[V1 (by omega) (fun z bC=>(ai z (.tail _ bC)).1) aM.1,j1,aF rfl,aF (by omega)];unfold kC;obtain⟨oa,pH⟩:=y;rw[List.lookup_cons_self];rfl
  ·rw[k2,ft] at cn;have cn:q∈l.map (·.1):=by
    rcases cn with q|q
    ·exact absurd q e
    ·exact q
   rw[V2 aM.2 (fun z bC=>by rw[hW];exact ai z (.tail _ bC)) cn];unfold kC;obtain⟨oa,pH⟩:=y;rw[List.lookup_cons,show(q==oa)=false by simpa using e]
end
end Go.Opn
namespace Go.Opn
noncomputable section
open Go.Cre Go.RowKit Go.Proofs
section
variable {Q:db Tryz.prog}{g0:Nat}{J:aA}
theorem aiQ{s:Int}:Fn (a2 Q g0) 58 [.int .i64 s] [] J (fun w m' ag=>∃a,w=.func (.func 73) #[] #[.pointer (some ⟨a,0,none⟩)]/\m'=[(a,.row [.int .i64 s] 3)]/\ag=J):=by
 refine Fn.dw (dB Tryz.func58) rfl rfl fun H=>?_;refine rg ?_;refine fG fun bl=>?_;refine U V.a7 ?_;refine bP ?_;refine aV ?_;refine ns ?_;refine ae.ret ?_;refine'⟨.inr rfl,rfl,_,_,.tmp rfl .nil,bV _,⟨_,rfl,rfl,rfl⟩⟩
theorem aiP{mF:Nat->aI->aA->Prop}{s:Int}{N cf bl:Nat}{IF:aI}(jR:1<=N)(h6:1<=s)(iM:s<2147483647)(bt:mF 0 IF J)
 (L4:∀ag k m,J.le ag->k<N->mF k m ag->wD (a2 Q g0) cf [.int .i64 (oR s (k+1))] m ag (fun v m' wu=>v=.bool (decide (k+1<N))/\mF (k+1) m' wu/\ag.le wu)):
 Fn (a2 Q g0) 73 [.func (.yield cf) #[] #[],.pointer (some ⟨bl,0,none⟩)] ((bl,.row [.int .i64 s] 3)::IF) J (fun w m' ag=>mF N m' ag/\J.le ag):=by
 refine Fn.dw (dB Tryz.func73) rfl rfl fun H=>?_;refine aJ ?_;refine ae.block ?_;refine aJ ?_;refine ae.gZ (m':=IF++[(bl,.row [.int .i64 s] 3)]) (Ka _ _) ?_;refine kq [0,1] ?_;refine aJ ?_;refine' ae.cf (fun(cU:Nat×aI×aA)=>match cU with|(k,en,eW)=>⟨[],en++[(bl,.row [.int .i64 (oR s k)] 3)],eW,k<N/\J.le eW/\mF k en eW,N -k⟩) ⟨0,IF,J⟩ ?al ?cp
 case al=>exact⟨jR,aA.le.refl _,bt⟩
 case cp=>
  rintro⟨k,en,eW⟩ hinv;try simp only at hinv
  obtain⟨aH,ME,dC⟩:=hinv;have aej:=FV h6 iM k;refine aJ ?_;refine ae.block ?_;refine rg ?_;refine U V.a9 ?_;refine U V.va ?_;refine U V.tz ?_;refine fF ?_;refine bu ?_;rw[show(oR s k*48271).tmod 2147483647=oR s (k+1) from rfl];refine rg ?_;refine U V.az ?_;refine U V.a9 ?_;refine' W.step rfl (Exec.yield rfl rfl rfl rfl rfl rfl (a4:=en) (b2:=[_]) (.refl _) trivial (L4 _ k en ME aH dC) ?_);rintro v eM hs fu ⟨rfl,q6,gO⟩;refine U V.oL ?_;refine ns ?_;refine If (fun jr=>?_) fun jr=>?_
  ·refine aJ ?_;refine ae.ret ?_;refine'⟨.inr rfl,rfl,_,_,.nil,(oh _ _),?_⟩;refine⟨?_,ME.trans gO⟩;have anl:¬k+1<N:=by simpa using jr
   rw[show N=k+1 by omega];exact q6
  ·refine aJ ?_;refine ae.skip ?_;refine e2 ⟨k+1,eM,hs⟩ ?_;refine⟨?_,ME.trans gO,q6⟩;have:=B7 (by simpa using jr);exact this
end
theorem ahd{α:Type}{bl uC cf oX hd ik:α}{M:List α}:((bl::(uC::cf::oX::hd::M))++[ik]).Perm (cf::ik::([bl]++uC::oX::hd::M)):=by open Classical in exact iu
theorem U5{α:Type}{uC cf oX hd s c n:α}{R:List α}:((c::R)++[uC,cf,oX,hd,s,n]).Perm (uC::cf::oX::hd::([s,c,n]++R)):=by open Classical in exact iu
section
variable {Q:db Tryz.prog}{g0:Nat}{J:aA}
variable {g:bp}{aT bi cT dd:Option Addr}{aP ci ck ac bK cj cE di a1 c7 dh dk c3 dG c8 dn dQ:Nat}{va dy vs ee:Value}{p r sd:Int}{cS cy h5:List Int}{R:aI}{cells:List Value}{e:TypeId}{eu:Int->List Int}
def XV(F:pI->Prop)(N cf bF bO b3:Nat)(v2 jX:Value)(M:Nat->aI)(Gr:aA)(k:Nat)(m:aI)(J:aA):Prop:=
 Gr=J/\∃r:pI,(k<N->F r)/\(k=N->r.state=.done/\r.pending=some .ret)/\m=(b3,.row [.int .i64 (k:Int)] 3)::(cf,.loop r)::(bO,.row [jX] 22)::(bF,.row [v2] 68)::M k
theorem aad{GW:Option Addr}{KO:Nat}(jP:J cj=some (cells,e))(h6:1<=sd)(iM:sd<2147483647)(dC:ew J (.slice GW h5.length KO) h5)(zc:h5.length<=1000)(vk:cy.length=c7)
 (dq:∀q∈h5,0<=q/\q<cE/\q<c7/\1<=(eu q).length/\(eu q).length<=1000/\1<=(eu q).sum/\(eu q).sum<=1000000/\∃b c,nth cells q.toNat=some (.slice b (eu q).length c)/\addrEq b b=true/\iH R J b (hF (eu q))):
 Fn (a2 Q g0) 42 [.pointer (some ⟨ck,0,none⟩),.slice GW h5.length KO] ([(ck,.row (ed ac va r sd cT dk c3 ee dd dG c8 bK dn dQ cS) 73),(ac,.row (c6 g aT aP bi ci dy p cj cE di a1 c7 dh vs) 80),bM a1 cy]++R) J (fun v m' ag=>m'=[(ck,.row (ed ac va r (fT eu h5 sd).2 cT dk c3 ee dd dG c8 bK dn dQ cS) 73),(ac,.row (c6 g aT aP bi ci dy p cj cE di a1 c7 dh vs) 80),bM a1 (m4 cy (fT eu h5 sd).1)]++R/\J=ag):=by
 have anQ:addrEq GW GW=true:=dC.addr;refine Fn.agp (dB Tryz.func42) rfl rfl fun H=>?_;refine rg ?_;refine fG fun bF=>?_;refine fG fun bO=>?_;refine bP ?_;refine U V.bL ?_;refine U V.cr ?_;refine U V.bm ?_;refine ns ?_;refine If (fun yF=>?_) fun yF=>?_
 ·refine aJ ?_;refine ae.ret ?_;refine'⟨.inr rfl,_,_,_,.nil _,.nil,(show(([(ck,.row (ed ac va r sd cT dk c3 ee dd dG c8 bK dn dQ cS) 73),(ac,.row (c6 g aT aP bi ci dy p cj cE di a1 c7 dh vs) 80),bM a1 cy]++R:aI)).Sublist _ from(C0 _ _).trans (C0 _ _)),?_⟩;obtain rfl:h5=[]:=qL.1 (by omega);exact⟨rfl,rfl⟩
 ·obtain⟨hx,op,amm,amN,rfl,amZ,adr⟩:=dC.zY (by omega);refine n0 ?_;refine' W.step rfl (.of (ic rfl rfl rfl (JN Q g0) rfl rfl rfl fun b3=>?_));refine fF ?_;refine bP ?_;refine U V.bL ?_;refine aV ?_;refine U V.bL ?_;refine cl (G:=aiQ) (h:=?_);rintro v m' cN hle ⟨bl,rfl,rfl,rfl⟩;refine ns ?_;refine ae.block ?_;refine aJ ?_;refine ae.aim rfl rfl (fun ik cf v7 ax=>?_);refine⟨(bl,_)::((b3,_)::(cf,_)::(bO,_)::(bF,_)::[(ck,.row (ed ac va r sd cT dk c3 ee dd dG c8 bK dn dQ cS) 73),(ac,.row (c6 g aT aP bi ci dy p cj cE di a1 c7 dh vs) 80),bM a1 cy]++R),[(ik,.gh)],_,ahd,trivial,aiP (N:=h5.length) (mF:=XV (fun r=>An r _ _ _ _ cf _) h5.length cf bF bO b3 (.pointer (some ⟨ck,0,none⟩)) (.slice (some ⟨hx,op,none⟩) h5.length KO) (fun k=>[(ck,.row (ed ac va r (oR sd k) cT dk c3 ee dd dG c8 bK dn dQ cS) 73),(ac,.row (c6 g aT aP bi ci dy p cj cE di a1 c7 dh vs) 80),bM a1 (w1 eu h5 sd cy k)]++R) cN) (by omega) h6 iM ⟨rfl,v7,fun _=>ax,fun q=>by omega,rfl⟩ ?L4,?q'⟩;case L4=>
   rintro hs k m fu aH ⟨rfl,v7,fz,_,rfl⟩;have ax:=fz aH;have aej:=FV h6 iM k;obtain⟨q,cn,anF⟩:=adr k (by omega);obtain⟨mw,aow,aov,d',gS,ia,rQ,amc,gu,vr,acK,HD⟩:=dq q (cV cn);obtain⟨i,rfl⟩:∃i:Nat,q=(i:Int):=⟨q.toNat,by omega⟩;have SG:=vr;rw[ea] at SG;have anS:=FV h6 iM (k+1);refine wD.agn ax (by repeat first|exact .head _|refine .tail _ ?_|refine lm _ ?_) rfl rfl (fun H=>?_);refine rg ?_;refine U V.a7 ?_;refine bu ?_;refine⟨rfl,_,(by repeat first|exact .head _ _ _ _|apply dc.tail|apply dc.app),?_⟩;refine aJ ?_;refine ae.block ?_;refine rg ?_;refine U V.bL ?_;refine aV ?_;refine fF ?_;refine ns ?_;refine ae.draw rfl (by kernel_rfl) (a8:=[.val 0,.val 1,.val 2,.val 3,.val 4,.val 5,.val 6,.val 7,.val 8,.val 9,.val 10,.val 11,.val 12,.val 13,.val 14,.val 15,.val 16,.val 17,.val 18,.val 19,.cv 20,.val 21,.val 22,.c9 [11,10,9,8,7,6,5,4,3,2,1,0],.cv 23]) (by kernel_rfl) ?_;refine aB rfl V.bL ?_;refine cm ?_;refine aB rfl V.bL ?_;refine cm ?_;refine aB rfl V.bL ?_;refine aB rfl V.bL ?_;refine aB rfl V.bL ?_;refine aB rfl V.bf ?_;refine aB rfl V.bL ?_;refine aB rfl V.az ?_;refine aB rfl V.bL ?_;refine cm ?_;refine aB rfl V.bL ?_;refine aB rfl V.bL ?_;refine aB rfl V.bL ?_;refine aB rfl V.bf ?_;refine aB rfl V.bL ?_;refine' a3.call rfl rfl rfl rfl rfl rfl rfl rfl rfl rfl (a4:=(ac,.row (c6 g aT aP bi ci dy p cj cE di a1 c7 dh vs) 80)::R) (b2:=[_,_,_,_,(ck,.row (ed ac va r (oR sd (k+1)) cT dk c3 ee dd dG c8 bK dn dQ cS) 73),bM a1 (w1 eu h5 sd cy k)]) U5 trivial (ajN (i:=i) jP (by omega) SG acK HD d' gS) ?_
   rintro v' m' cN eL ⟨rfl,rfl,rfl⟩;refine aB rfl V.tz ?_;refine aB rfl V.bf ?_;refine a3.c9 g7 ?_;refine' a3.ij rfl rfl (jY rfl rfl rfl rfl (h' rfl) rfl rfl rfl ?aa ?al ?au ?_);case au=>repeat first|exact .head _ _ _ _|apply dc.tail|apply dc.app
   case al=>exact pC i (by rw[aab];omega)
   case aa=>first|rfl|assumption
   refine a3.nil ?_;have HS:=aac (W:=eu) (s:=sd) (cy:=cy) cn;rw[ea] at HS;rw[HS];refine ae.gZ (List.Perm.symm U5) ?_;refine rg ?_;refine U V.bL ?_;refine U V.va ?_;refine fF ?_;refine bP ?_;refine U V.bL ?_;refine U V.bL ?_;refine U V.cr ?_;refine U V.bm ?_;refine ns ?_;refine If (fun KI=>?_) fun KI=>?_
   ·refine aJ ?_;refine ae.ret ?_;exact⟨some .ret,_,_,_,rfl,(by repeat first|exact .head _ _ _ _|apply dc.tail|apply dc.app),bV _,by rw[show decide (k+1<h5.length)=false from tx (by omega)];rfl,⟨rfl,_,fun q=>by omega,fun _=>⟨rfl,rfl⟩,rfl⟩,aA.le.refl _⟩
   ·refine aJ ?_;refine ae.skip ?_;exact⟨none,_,_,_,rfl,(by repeat first|exact .head _ _ _ _|apply dc.tail|apply dc.app),bV _,by rw[show decide (k+1<h5.length)=true from o8 (by omega)];rfl,⟨rfl,_,fun _=>ax.again,fun q=>by omega,rfl⟩,aA.le.refl _⟩
  rintro v m' cN eL ⟨⟨rfl,v7,_,hI,rfl⟩,anv⟩;obtain⟨c0,po⟩:=hI rfl;refine⟨v7,_,(by repeat first|exact .head _ _ _ _|apply dc.tail|apply dc.app),(by rw[c0];intro q;cases q),?_⟩;rw[po];refine'⟨.inr rfl,_,_,_,.Rc (Ka (ik,.gh) ((b3,_)::(cf,_)::(bO,_)::(bF,_)::([(ck,.row (ed ac va r (oR sd h5.length) cT dk c3 ee dd dG c8 bK dn dQ cS) 73),(ac,.row (c6 g aT aP bi ci dy p cj cE di a1 c7 dh vs) 80),bM a1 (w1 eu h5 sd cy h5.length)]++R))).symm (.nil _),.nil,(C0 _ _).trans ((C0 _ _).trans ((C0 _ _).trans (C0 _ _))),?_⟩;rw[Ro];unfold w1;rw[fZ (by rw[Rq];exact dH _)];exact⟨rfl,rfl⟩
end
section
variable {Q:db Tryz.prog}{g0:Nat}{J:aA}
variable {g:bp}{cT dd lo:Option Addr}{ck ac bK dk c3 dG c8 dn dQ IP k6:Nat}{va:Value}{r sd:Int}{cS:List Int}{cu lO:aI}
theorem iH.opn{a:Nat}{J:aA}{l:List Int}{m:aI}{r:List Nat}(h:iv a l r∈m):iH m J (some ⟨a,0,none⟩) l:=fun au=>
 ⟨a,0,l.map (Value.int .i64),rfl,.opn h,fun i bt ak=>⟨_,du (by omega),n3 i.toNat (by rw[gG,du (by omega)];rfl) (by omega)⟩⟩
theorem TX{en:aI}{x:Int}:Fn (a2 Q g0) 59 [.int .i64 x] en J (fun u m' ag=>u=.bool (gY (-70368744177664) 70368744177664 x)/\m'=en/\J=ag):=by
 refine Fn.dw (dB Tryz.func59) rfl rfl fun H=>?_;refine rg ?_;refine U V.a7 ?_;refine bP ?_;refine U V.az ?_;refine U V.bm ?_;refine U V.az ?_;refine eu 5 (fun tI=>?_) fun tI=>?_
 ·refine a0 ?_;refine a0 ?_;refine U V.bc ?_;refine U V.a7 ?_;refine ns ?_;refine ae.ret ?_;refine'⟨.inr rfl,rfl,_,_,.tmp rfl .nil,bV _,?_⟩;refine⟨fl Value.bool ?_,rfl,rfl⟩;rw[show gY (-70368744177664) 70368744177664 x=(decide (x< -70368744177664)||decide (70368744177664<x)) from rfl];first|(rw[o8 tI];rfl)|(rw[tx tI];rfl)
 ·refine bg V.az ?_;refine bg V.bm ?_;refine U V.bc ?_;refine U V.a7 ?_;refine ns ?_;refine ae.ret ?_;refine'⟨.inr rfl,rfl,_,_,.tmp rfl .nil,bV _,?_⟩;refine⟨fl Value.bool ?_,rfl,rfl⟩;rw[show gY (-70368744177664) 70368744177664 x=(decide (x< -70368744177664)||decide (70368744177664<x)) from rfl];first|(rw[o8 tI];rfl)|(rw[tx tI];rfl)
theorem UX{l:List Int}(h:∀v∈l,-70368744177664<=v/\v<=70368744177664):l.any (gY (-70368744177664) 70368744177664)=false:=by
 rw[PF];intro v ap;have:=h v ap;unfold gY;rw[tx (by omega),tx (by omega)];decide
theorem ae0{cr dx:List (List Int)}{m:Nat}(hw:hV g)(k7:fk nA J 22 (.slice cT dk c3) cr cu)(kd:fk nA J 22 (.slice lo IP k6) dx lO)(al:ht g cr dx m)(hm:m<=60000):
 Fn (a2 Q g0) 43 [.pointer (some ⟨ck,0,none⟩)] ((ck,.row (ed ac va r sd cT dk c3 (.slice lo IP k6) dd dG c8 bK dn dQ cS) 73)::(cu++lO)) J (fun v m' ag=>v=.bool true/\m'=(ck,.row (ed ac va r sd cT dk c3 (.slice lo IP k6) dd dG c8 bK dn dQ cS) 73)::(cu++lO)/\J=ag):=by
 obtain⟨_,_,_,aD,ML⟩:=k7.len;injection aD with _ aD _
 obtain⟨_,_,_,a5,anD⟩:=kd.len;injection a5 with _ a5 _
 subst aD;subst a5;obtain⟨s1,s2,h2,xY⟩:=al.len hw;have i2:=hw.i2;refine Fn.dw (dB Tryz.func43) rfl rfl fun H=>?_;refine rg ?_;refine U V.a7 ?_;refine bP ?_;refine U V.a7 ?_;refine bP ?_;refine aV ?_;refine U V.bL ?_;refine aV ?_;refine ns ?_;refine ae.block ?_;refine' ae.fy (l':=[(12,.int .i64 ((0):Int)),(0,_),(3,_),(10,_),(11,_)]) ⟨?OZ,rfl,rfl,rfl,rfl,trivial⟩ (bV _) ?_;case OZ=>exact ec
 refine aJ ?_;refine' ae.cf (fun(i:Nat)=>⟨[(12,.int .i64 (i:Int))],(ck,.row (ed ac va r sd cT dk c3 (.slice lo IP k6) dd dG c8 bK dn dQ cS) 73)::(cu++lO),J,i<=dk,dk -i⟩) (0) ?al ?cp;case al=>exact dV _
 case cp=>
  rintro i hinv;try simp only at hinv
  have ak:=hinv;refine rg ?_;refine U V.bm ?_;refine ns ?_;refine If (fun Dn=>?_) fun Dn=>?_
  ·obtain⟨r3,rG,u3,yR,ad,l,aoU,hp,jA,hS,lh,Ca,_⟩:=k7.Fg (i:=i) (by omega);obtain⟨GO,B6,KT,aak,yw,q,Oj,bY,ep,gl,kY,pA,_⟩:=kd.Fg (i:=i) (by omega);subst hp;subst bY;have ag4:nth u3 (rG+((i:Nat):Int).toNat*1)=some (.slice (some ⟨ad,0,none⟩) l.length cR):=lh;have N':nth KT (B6+((i:Nat):Int).toNat*1)=some (.slice (some ⟨yw,0,none⟩) q.length cR):=kY;have xk:=h2 l (cV hS);have Tk:=xY q (cV gl);have lE:l.any (gY (-70368744177664) 70368744177664)=false:=UX fun v ap=>by
    have:=(al.1.2 i l _ hS (du (by omega))).2 v ap;omega
   have adZ:q.any (gY (-70368744177664) 70368744177664)=false:=UX fun v ap=>by
    have:=(al.2.2 i q _ gl (du (by omega))).2 v ap;omega
   refine gn ?_;refine aJ ?_;refine ae.block ?_;refine rg ?_;refine U V.az ?_;refine U V.bf ?_;refine U V.bL ?_;refine aV ?_;refine bP ?_;refine aV ?_;refine' W.step rfl (Exec.call rfl rfl rfl rfl rfl rfl rfl (a4:=(ck,_)::(cu++lO)) (b2:=[]) (by rw[fb]) trivial (KV (P:=gY (-70368744177664) 70368744177664) (iH.opn (.tail _ (rZ _ (cV Ca)))) (by omega) (fun x=>TX)) ?_);rintro v m' ag hle ⟨rfl,rfl,rfl⟩;rw[fb,lE];refine U V.az ?_;refine eu 20 (fun R8=>?_) fun R8=>?_
   ·exfalso;cases R8
   ·refine bg V.az ?_;refine bg V.l2 ?_;refine bg V.bU ?_;refine bg V.bU ?_;refine bg V.bL ?_;refine bg V.az ?_;refine bg V.bf ?_;refine bg V.bL ?_;refine bg V.az ?_;refine' W.sk rfl rfl rfl (Exec.call rfl rfl rfl rfl rfl rfl rfl (a4:=(ck,_)::(cu++lO)) (b2:=[]) (by rw[fb]) trivial (KV (P:=gY (-70368744177664) 70368744177664) (iH.opn (.tail _ (lm _ (cV pA)))) (by omega) (fun x=>TX)) ?_);rintro v m' ag hle ⟨rfl,rfl,rfl⟩;rw[fb,adZ];refine U V.bc ?_;refine ns ?_;refine If (fun G1=>?_) fun G1=>?_
    ·exfalso;cases G1
    ·refine aJ ?_;refine ae.skip ?_;refine rg ?_;refine U V.va ?_;refine U V.az ?_;refine bu ?_;refine e2 (i+1) ?_;exact(by omega)
  ·refine aJ ?_;refine ae.exit ?_;refine rg ?_;refine U V.a7 ?_;refine ns ?_;refine ae.ret ?_;refine'⟨.inr rfl,rfl,_,_,.tmp rfl .nil,bV _,⟨rfl,rfl,rfl⟩⟩
end
section
variable {Q:db Tryz.prog}{g0:Nat}{J:aA}
theorem Ra{b:Option Addr}{c:Nat}{l:List Int}(ay:ew J (.slice b l.length c) l)(aa:1<=l.length)(ab:l.length<=1000):
 Fn (a2 Q g0) 39 [.slice b l.length c] [] J (fun v m' ag=>∃ad r,v=.slice (some ⟨ad,0,none⟩) l.length cR/\m'=[iv ad l r]/\J=ag):=by
 obtain⟨a,off,cells,e,rfl,jP,fg⟩:=ay.zY (by omega);refine Fn.dw (dB Tryz.func39) rfl rfl fun H=>?_;refine rg ?_;refine U V.a7 ?_;refine bP ?_;refine U V.az ?_;refine U V.VR ?_;refine ns ?_;refine If (fun nE=>?_) fun nE=>?_
 ·exfalso;cases nE
 ·refine aJ ?_;refine ae.skip ?_;refine rg ?_;refine uV (hL Q g0) fun c2=>?_;refine U V.az ?_;refine' W.step rfl (.of (O8 rfl rfl rfl rfl rfl rfl (hL Q g0) (s3 Q g0) (fun i q=>by cases q) ?fo ?hm ?I ?df ?dR ?ay fun W9 an' acI TO=>?_));case fo=>exact .lu _
  case hm=>exact .refl _
  case I=>exact ay.rd
  case df=>first|rfl|(simp;done)|(simp;omega)
  case dR=>first|rfl|exact mX _
  case ay=>exact cQ
  obtain⟨y,rfl,ah⟩:=acI.aeT (r:=l) (TO.1 alq) (TO.2 afZ) (by omega) (by simp) aa;obtain⟨ad,r,rfl,rfl⟩:=ah;refine U V.a7 ?_;refine ns ?_;refine ae.ret ?_;refine'⟨.inr rfl,rfl,_,_,.tmp rfl .nil,.cons_cons _ (mc _),⟨ad,r,rfl,rfl,rfl⟩⟩
end
def qv(g:bp)(p:Int)(i:Nat):List Int:=gr g g.ns.length++qA g p i
theorem ajL{g:bp}{p:Int}{i:Nat}{y:Int×Int}(h:g.is[i]?=some y):qA g p (i+1)=if y.1≠p then qA g p i++[(g.ns.length:Int)+i] else qA g p i:=by
 unfold qA;rw[PT,List.filter_append,CV];by_cases au:y.1≠p
 ·rw[aF au,J5,aF (by rw[h];simpa using au),J6];rfl
 ·rw[aq au,J5,aq (by rw[h];simpa using au),J6,List.map_nil,fb]
theorem Zg{g:bp}{i:Nat}{x:cH}(h:g.ns[i]?=some x):gr g (i+1)=if x.k=1 then gr g i++[(i:Int)] else gr g i:=by
 unfold gr;rw[PT,List.filter_append,CV];by_cases au:x.k=1
 ·rw[aF au,J5,aF (by rw[h];simpa using au),J6];rfl
 ·rw[aq au,J5,aq (by rw[h];simpa using au),J6,List.map_nil,fb]
theorem ajK{g:bp}{p:Int}{i:Nat}:(qA g p i).length<=i:=by
 unfold qA;rw[ig];exact m9 (J9 _ _) (by rw[yr];exact dH _)
theorem Q7{g:bp}{i:Nat}:(gr g i).length<=i:=by
 unfold gr;rw[ig];exact m9 (J9 _ _) (by rw[yr];exact dH _)
theorem U4{α:Type}{x y:α}{A B:List α}:(x::y::(A++B)).Perm (A++(x::y::B)):=by open Classical in exact iu
theorem Acc.qX{e:TypeId}{aj k fw:Nat}{v:Value}{c b1:List Value}{aY:aI}(h:Acc e aj v k c aY)(aa:k=fw)(ab:c=b1):Acc e aj v fw b1 aY:=by subst aa;subst ab;exact h
section
variable {Q:db Tryz.prog}{g0:Nat}{J:aA}
variable {g:bp}{aT bi bv:Option Addr}{aP ci ac cj cE di a1 c7 dh eY:Nat}{vs:Value}{p:Int}
open Classical in
theorem ahL(hw:hV g)(ar:hB J g aT aP bi ci)(ap:ew J (.slice bv (gr g g.ns.length).length eY) (gr g g.ns.length)):
 Fn (a2 Q g0) 24 [.pointer (some ⟨ac,0,none⟩)] [(ac,.row (c6 g aT aP bi ci (.slice bv (gr g g.ns.length).length eY) p cj cE di a1 c7 dh vs) 80)] J (fun v m' ag=>J.le ag/\m'=[(ac,.row (c6 g aT aP bi ci (.slice bv (gr g g.ns.length).length eY) p cj cE di a1 c7 dh vs) 80)]/\∃b c,v=.slice b (fi g p).length c/\ew ag v (fi g p)):=by
 have kZ:addrEq bi bi=true:=ar.i.addr;have lj:addrEq aT aT=true:=ar.n.addr;obtain⟨_,nk⟩:=ar.i.at;have dr:=hw.dr;have i2:=hw.i2;have jw:=Q7 (g:=g) (i:=g.ns.length);refine Fn.dw (dB Tryz.func24) rfl rfl fun H=>?_;refine rg ?_;refine U V.a7 ?_;refine bP ?_;refine aV ?_;refine U V.bL ?_;refine' W.step rfl (.of (qF rfl rfl rfl rfl rfl rfl (hL Q g0) (s3 Q g0) (fun i q=>by cases q) ?fo ?hm ?I ?df ?dR ?ay fun JJ afM acC=>?_));case fo=>exact .nil
 case hm=>exact .refl _
 case I=>exact ap.rd
 case df=>first|rfl|(simp;done)|(simp;omega)
 case dR=>first|rfl|exact mX _
 case ay=>exact cQ
 refine U V.a7 ?_;refine bP ?_;refine aV ?_;refine U V.bL ?_;refine aV ?_;refine ns ?_;refine ae.block ?_;refine' ae.fy (l':=[(3,(JJ)),(17,.int .i64 ((0):Int)),(0,_),(15,_),(16,_)]) ⟨?ia,?O1,rfl,rfl,rfl,trivial⟩ (bV _) ?_;case ia=>exact ec
 case O1=>exact ec
 refine aJ ?_;refine' ae.cf (fun(cU:Nat×Value×aI)=>match cU with|(i,v,aY)=>⟨[(3,v),(17,.int .i64 (i:Int))],aY++[(ac,.row (c6 g aT aP bi ci (.slice bv (gr g g.ns.length).length eY) p cj cE di a1 c7 dh vs) 80)],J,i<=g.is.length/\Acc 3 1 v (qv g p i).length ((qv g p i).map (Value.int .i64)) aY,g.is.length -i⟩) ⟨0,JJ,afM⟩ ?al ?cp
 case al=>exact⟨dV _,acC.qX (by simp[qv,qA]) (by simp[qv,qA])⟩
 case cp=>
  rintro⟨i,v,aY⟩ hinv;try simp only at hinv
  obtain⟨ak,iL⟩:=hinv;obtain⟨jc,jd,rfl,Oa⟩:=iL.jO;refine rg ?_;refine U V.bm ?_;refine ns ?_;refine If (fun uX=>?_) fun uX=>?_
  ·obtain⟨j6,n4,yI,yS,rfl,nM,oy⟩:=nk (by omega);obtain⟨y,yK,ah,xf,rc,rfl⟩:=oy i (by omega) (by omega);have S2:=rc 0 _ (by decide) rfl;rw[ea] at ah;have hR:=ajK (g:=g) (p:=p) (i:=i);have dq:(qv g p i).length=(gr g g.ns.length).length+(qA g p i).length:=by unfold qv;rw[er]
   have TK:y.1=p\/y.1≠p:=by omega
   have Tr:=ajL (p:=p) ah;refine gn ?_;refine aJ ?_;refine ae.block ?_;refine rg ?_;refine U V.az ?_;refine U V.bf ?_;refine U V.qk ?_;refine' W.step rfl (.of (ic rfl rfl rfl (Gf Q g0) rfl rfl rfl fun c2=>?_));refine U V.a7 ?_;refine fF ?_;refine ns ?_;refine ae.draw rfl (by kernel_rfl) (a8:=[.val 0,.val 1,.val 2,.val 3,.val 4,.val 5,.val 6]) (by kernel_rfl) ?_;refine aB rfl V.bU ?_;refine aB rfl V.bL ?_;refine cm ?_;refine aB rfl V.bL ?_;refine aB rfl V.bm ?_;refine a3.nil ?_;refine aJ ?_;refine If (fun AG=>?_) fun AG=>?_
   ·have Bw:qv g p (i+1)=qv g p i++[(g.ns.length:Int)+i]:=by unfold qv;rw[Tr,aF AG,j0]
    refine rg ?_;refine aV ?_;refine U V.bL ?_;refine aV ?_;refine U V.va ?_;refine uV (hL Q g0) fun yu=>?_;refine' W.step rfl (.of (qF rfl rfl rfl rfl rfl rfl (hL Q g0) (s3 Q g0) (fun i q=>by cases q) ?fo ?hm ?I ?df ?dR ?ay fun akT afU acH=>?_));case fo=>assumption
    case hm=>exact U4
    case I=>exact nw
    case df=>first|rfl|(simp;done)|(simp;omega)
    case dR=>first|rfl|exact mX _
    case ay=>exact cQ
    refine U V.a7 ?_;refine bP ?_;refine U V.va ?_;refine U V.az ?_;refine bu ?_;refine e2 ⟨i+1,akT,afU⟩ ?_ (hm:=List.Sublist.append (.refl _) (.cons _ (.cons _ (.refl _))));exact⟨by omega,acH.qX (by rw[Bw,er];rfl) (by rw[Bw,CV];rfl)⟩
   ·have Bw:qv g p (i+1)=qv g p i:=by unfold qv;rw[Tr,aq AG]
    refine n0 ?_;refine U V.va ?_;refine U V.az ?_;refine bu ?_;refine e2 ⟨i+1,.slice jc (qv g p i).length jd,aY⟩ ?_ (hm:=.cons _ (.refl _));exact⟨by omega,iL.qX (by rw[Bw]) (by rw[Bw])⟩
  ·refine aJ ?_;refine ae.exit ?_;obtain rfl:i=g.is.length:=by omega
   refine iL.l4 (.refl _) fun cN eL hR=>?_;refine rg ?_;refine aV ?_;refine ns ?_;refine ae.ret ?_;refine'⟨.inr rfl,rfl,_,_,.tmp rfl .nil,bV _,⟨eL,rfl,jc,jd,rfl,3,hR⟩⟩
end
end
end Go.Opn

/- A part of the proof of TableLosses. -/
import Derived.Test.YtjbbbehaciogcaaGreatDoorCag
import Derived.Orders
set_option linter.unusedVariables false
set_option linter.unusedSimpArgs false
namespace Go.Cre
noncomputable section
open Go.RowKit
section
variable {P:Program}{B:Nat->Prop}{w0 w:World}{μ:bY}{H H':ar}{S:aZ}{fr:Frame}{tmps:Array Value}{ds:List Deferred}{cs:List Frame}{call:eI}{aJ:hl}
variable {ops:Array Oper}{i:Nat}{rest:List Nat}{k:List Item}{o:Oper}
theorem il.ui(aA:il P μ S fr tmps ds cs):S.bR=true->∃c rest,cs=c::rest:=fun q=>by obtain⟨c,r,a,_⟩:=aA.bg q;exact⟨c,r,a⟩
theorem ai2{r:cP}(he:cz P call aJ S H o=some r){c:Call}(ah:o.op=.defer c):S.cr=none:=by
 unfold cz e4 at he;simp only at he;rw[ah] at he;have he:wO P ⟨call,aJ,S,H,o⟩ c=some r:=he;unfold wO at he;cases ao:S.cr with
 |none=>rfl
 |some l=>simp only[ao] at he;cases he
theorem C7{v v':Value}{bh:bY}{H':ar}{a8:World}{m:Machine}{c8:dJ}(aA:il P bh S fr tmps ds cs)(hd:b8 P B w0 bh H' a8)(hs:Step μ bh H H')(av:bj bh v v')
 (dB:Steps P m (lone (bP fr (uR tmps o.dst v') ds (.inRegion ops rest::k)) cs a8))(he:mh S o.dst v H'=some c8):k' P B w0 μ H S fr cs m (.inRegion ops rest::k) c8:=by
 unfold mh ob at he;cases aw:S.put o.dst v with
 |none=>rw[aw] at he;cases he
 |some aH=>
  rw[aw] at he;have he:some (dJ.ok aH H')=some c8:=he;injection he with he;subst he
  obtain⟨a,b,c,_,_⟩:=Uq aA av aw;exact⟨bh,a8,_,ds,cs,hd,hs,a,kh.refl _ _ aA.ui,b,c,dB⟩
theorem k'.congr{S a4:aZ}{m:Machine}{todo:List Item}{c8:dJ}(ad:a4.bR=S.bR)(ae:a4.cr=S.cr)(h:k' P B w0 μ H a4 fr cs m todo c8):k' P B w0 μ H S fr cs m todo c8:=by
 cases c8 with
 |ok aH H'=>obtain⟨a,b,c,d,e,b4,bZ,cH,fX,gf,hc,gU⟩:=h;exact⟨a,b,c,d,e,b4,bZ,cH,ad▸fX,gf.trans ad,hc.trans ae,gU⟩
 |gx chain aH H'=>obtain⟨a,b,c,d,e,x,y,b4,bZ,cH,fX,gf,hc,gU,o8⟩:=h;exact⟨a,b,c,d,e,x,y,b4,bZ,cH,ad▸fX,gf.trans ad,hc.trans ae,gU,o8⟩
theorem au5{ops:Array Oper}{i:Nat}{rest:List Nat}{o:Oper}{a8:World}{v:Value}{cG:List Frame}(ah:ops[i]?=some o)(hw:Region.wanted o (yielded ops tmps)=true)(uC:fr.roundOf=none)
 (ao:(execOp (dc tmps) o).run P w=.ok .recover a8)(aI:(tryRecover (bP fr tmps ds (.inRegion ops (i::rest)::k)) cs).getD (.nilIface,cs)=(v,cG)):
 step P (lone (bP fr tmps ds (.inRegion ops (i::rest)::k)) cs w)=.next (lone (bP fr (uR tmps o.dst v) ds (.inRegion ops rest::k)) cG a8):=by
 rw[<-Bz ah];refine step_lone_go ?_;rw[C9 ah hw (.inl uC)];have ZV:(bP fr tmps ds (.inRegion ops (i::rest)::k)).roundOf=none:=uC;cases aa:tryRecover (bP fr tmps ds (.inRegion ops (i::rest)::k)) cs with
 |none=>
  rw[aa] at aI;simp at aI;obtain⟨rfl,rfl⟩:=aI;simp[stepG.apply,ao,ZV,aa]
 |some p=>
  obtain⟨v1,gD⟩:=p;rw[aa] at aI;simp at aI;obtain⟨rfl,rfl⟩:=aI;simp[stepG.apply,ao,ZV,aa]
theorem atx{ops:Array Oper}{i:Nat}{rest:List Nat}{v:Value}{bg:FrameMode}(aA:il P μ S fr tmps ds cs)(he:qx S=some (v,bg)):
 ∃v' cG,(tryRecover (bP fr tmps ds (.inRegion ops (i::rest)::k)) cs).getD (.nilIface,cs)=(v',cG)/\bj μ v v'/\il P μ (S.zc bg) fr tmps ds cG/\kh S.bR cs cG/\fr.roundOf=none:=by
 unfold qx at he;cases uC:S.cr with
 |some l=>rw[uC] at he;cases he
 |none=>
  rw[uC] at he;have cT:=aA.uW uC;obtain⟨T,n,gd,bR,J',cr⟩:=S;cases bR with
  |false=>
   simp only[dK] at he;injection he with he;injection he with ax aS;subst ax;subst aS
   have hk:(bP fr tmps ds (.inRegion ops (i::rest)::k)).kind=.normal:=aA.kind;have:tryRecover (bP fr tmps ds (.inRegion ops (i::rest)::k)) cs=none:=by
    cases cs<;>simp[tryRecover,hk]
   rw[this];exact⟨_,_,rfl,bj.atom _ rfl,aA,rfl,cT⟩
  |true=>
   simp only[cd] at he;have hk:(bP fr tmps ds (.inRegion ops (i::rest)::k)).kind=.deferred:=aA.kind;obtain⟨c,C8,rfl,hm⟩:=aA.bg rfl;rw[tryRecover_deferred hk];have e6:recoverD (c::C8)=none->v=.nilIface->bg=J'->∃v' cG,(recoverD (c::C8)).getD (.nilIface,c::C8)=(v',cG)/\bj μ v v'/\il P μ (aZ.zc bg ⟨T,n,gd,true,J',cr⟩) fr tmps ds cG/\kh true (c::C8) cG/\fr.roundOf=none:=by
    intro ad ae aD;subst ae;subst aD;rw[ad];exact⟨_,_,rfl,bj.atom _ rfl,aA,⟨c,C8,c.mode,rfl,rfl⟩,cT⟩
   cases SW:J' with
   |run=>
    subst SW;simp only at he;injection he with he;injection he with ax aS
    refine e6 ?_ ax.symm aS.symm;cases p6:c.mode<;>rw[p6] at hm<;>first|exact hm.elim|simp[recoverD,p6]
   |returning=>
    subst SW;simp only at he;injection he with he;injection he with ax aS
    refine e6 ?_ ax.symm aS.symm;cases p6:c.mode<;>rw[p6] at hm<;>first|exact hm.elim|simp[recoverD,p6]
   |panicking bw=>
    subst SW;cases p6:c.mode with
    |run=>rw[p6] at hm;exact hm.elim
    |returning=>rw[p6] at hm;exact hm.elim
    |panicking xC=>
     rw[p6] at hm;have hm:iY μ bw xC:=hm;cases bw with
     |nil=>
      have:xC=[]:=oj hm.1.symm;subst this;simp only at he;injection he with he;injection he with ax aS
      exact e6 (by simp[recoverD,p6]) ax.symm aS.symm
     |cons x Nz=>
      cases xC with
      |nil=>have:=hm.1;simp at this
      |cons dV arZ=>
       obtain⟨ba,bd,cm⟩:=hm.2 0 x dV rfl rfl;obtain⟨Dn,axi,axg⟩:=x;obtain⟨Vu,Vt,afc⟩:=dV;simp only at ba bd cm;subst ba;subst bd;cases Vt with
       |true=>
        simp only at he;injection he with he;injection he with ax aS
        exact e6 (by simp[recoverD,p6]) ax.symm aS.symm
       |false=>
        cases afc with
        |true=>
         simp only at he;injection he with he;injection he with ax aS
         exact e6 (by simp[recoverD,p6]) ax.symm aS.symm
        |false=>
         simp only at he;injection he with he;injection he with ax aS
         subst ax;subst aS;refine⟨Vu,{c with mode:=.panicking ({v:=Vu,recovered:=true}::arZ)}::C8,by simp[recoverD,p6],cm,⟨aA.t,aA.d,aA.kind,aA.uW,aA.Az,(fun _=>⟨_,_,rfl,?_⟩),aA.fn⟩,⟨c,C8,_,rfl,rfl⟩,cT⟩;refine⟨by have:=hm.1;simpa using this,fun j e bD q dG=>?_⟩;cases j with
         |zero=>simp at q dG;subst q;subst dG;exact⟨rfl,rfl,cm⟩
         |succ j=>exact hm.2 (j+1) e bD (by simpa using q) (by simpa using dG)
theorem CT(hO:pC P B w0 call)(nA:xi P B w0 aJ)(h:b8 P B w0 μ H w)(aA:il P μ S fr tmps ds cs)(ah:ops[i]?=some o){c8:dJ}(he:one P call aJ ops.toList S H o=some c8):
 k' P B w0 μ H S fr cs (lone (bP fr tmps ds (.inRegion ops (i::rest)::k)) cs w) (.inRegion ops rest::k) c8:=by
 unfold one at he;cases ay:fT ops.toList S.T o with
 |none=>rw[ay] at he;cases he
 |some b=>
  rw[ay] at he;have hw:=YC aA.t ay;cases b with
  |false=>
   have he:mh S o.dst undef H=some c8:=he;exact C7 aA h (Step.refl _ _) (bj.undef μ) (.one (au' ah hw)) he
  |true=>
   have he:oP S H o.dst (cz P call aJ S H o)=some c8:=he;cases eu:cz P call aJ S H o with
   |none=>rw[eu] at he;cases he
   |some r=>
    rw[eu] at he;have he:acm S H o.dst r=some c8:=he;have bn:=akp h aA.t eu;have eh:fr.roundOf=none\/∀c,o.op≠.defer c:=by
     by_cases au:∃c,o.op=.defer c
     ·obtain⟨c,au⟩:=au;exact .inl (aA.uW (ai2 eu au))
     ·exact .inr fun c q=>au ⟨c,q⟩
    cases r with
    |val v H1=>
     have he:mh S o.dst v H1=some c8:=he;rcases bn with⟨v',a8,bh,dq,c2,fp,ij⟩|⟨f,args,cb,dq,c2,fp⟩|⟨l,L,args,cb,jR,dq,c2,fp⟩
     ·exact C7 (aA.mono fp.ext) c2 fp ij (.one (UZ ah hw eh dq)) he
     ·rcases hO f args H _ _ fp μ w cb h c2 with⟨v0,v',a8,bh,ax,aS,cl,dS,cx⟩|⟨ax,aS⟩
      ·injection ax with ax;subst ax
       exact C7 (aA.mono dS.ext) cl dS cx (.one (UZ ah hw eh (dq.trans aS))) he
      ·obtain⟨bD,a8,Yn,⟨bh,b4,bZ,cH⟩,EG,_,ES⟩:=aS (bP fr tmps ds (.inRegion ops (i::rest)::k)::cs);cases bD with
       |returned v'=>
        refine C7 (aA.mono bZ.ext) b4 bZ cH ?_ he;rw[<-Bz ah];exact .head (adR ah hw eh (dq.trans ax)) (Steps.trans EG (.one (step_leave_returned ES)))
       |panicked c=>exact cH.elim
       |outgrown=>exact cH.elim
     ·obtain⟨f,py,a,b,aS,cl⟩:=nA l args H _ _ fp μ w L cb h jR c2;obtain⟨bD,a8,bh,b4,bZ,cH,fX⟩:=cl (bP fr tmps ds (.inRegion ops (i::rest)::k)) cs;cases bD with
      |returned v'=>
       refine C7 (aA.mono bZ.ext) b4 bZ cH ?_ he;rw[<-Bz ah];exact .head (adV ah hw eh (dq.trans aS)) fX
      |panicked c=>exact cH.elim
      |outgrown=>exact cH.elim
    |skip H1=>
     have he:mh S o.dst undef H1=some c8:=he;obtain⟨a8,dq,c2,fp⟩:=bn;exact C7 aA c2 fp (bj.undef μ) (.one (au9 ah hw eh dq)) he
    |gP d=>
     have he:Ar S H o.dst d=some c8:=he;unfold Ar at he;cases SK:S.cr with
     |some l=>rw[SK] at he;cases he
     |none=>
     rw[SK] at he;have he:mh (S.F9 d) o.dst undef H=some c8:=he;obtain⟨lf,cap,ek,args,cb,rfl,dq,c2,fp,ij⟩:=bn;have uC:fr.roundOf=none:=aA.uW SK;obtain⟨T,n,gd,bR,bg,cr⟩:=S
     have RV:il P μ (aZ.F9 {target:=.fn lf cap,args:=args.toArray} ⟨T,n,gd,bR,bg,cr⟩) fr tmps ({target:=.fn lf ek,args:=cb.toArray}::ds) cs:=
      ⟨aA.t,.cons _ _ _ _ (.inl ⟨lf,cap,ek,rfl,rfl,c2,fp,by simpa using ij⟩) aA.d,aA.kind,aA.uW,aA.Az,aA.bg,aA.fn⟩
     exact k'.congr (a4:=aZ.F9 {target:=.fn lf cap,args:=args.toArray} ⟨T,n,gd,bR,bg,cr⟩) rfl rfl (C7 RV h (Step.refl _ _) (bj.undef μ) (.one (auR ah hw uC dq)) he)
    |gx chain H1=>
     have he:some (dJ.gx chain S H1)=some c8:=he;injection he with he;subst he
     rcases bn with⟨v,v',rfl,rfl,dq,c2⟩|⟨f,args,cb,dq,c2,fp⟩|⟨l,L,args,cb,jR,dq,c2,fp⟩
     ·exact⟨μ,w,tmps,ds,cs,_,_,h,Step.refl _ _,aA,kh.refl _ _ aA.ui,rfl,rfl,iY.single c2,.one (au1 ah hw eh dq)⟩
     ·rcases hO f args H _ _ fp μ w cb h c2 with⟨v0,v',a8,bh,ax,_⟩|⟨ax,aS⟩
      ·cases ax
      ·obtain⟨bD,a8,Yn,⟨bh,b4,bZ,cH⟩,EG,_,ES⟩:=aS (bP fr tmps ds (.inRegion ops (i::rest)::k)::cs);cases bD with
       |returned v'=>exact cH.elim
       |panicked c=>
        refine⟨bh,a8,tmps,ds,cs,c,.inRegion ops (i::rest)::k,b4,bZ,aA.mono bZ.ext,kh.refl _ _ aA.ui,rfl,rfl,cH,?_⟩;exact .head (adR ah hw eh (dq.trans ax)) (Steps.trans EG (.one (step_leave_panicked ES)))
       |outgrown=>exact cH.elim
     ·obtain⟨f,py,a,b,aS,cl⟩:=nA l args H _ _ fp μ w L cb h jR c2;obtain⟨bD,a8,bh,b4,bZ,cH,fX⟩:=cl (bP fr tmps ds (.inRegion ops (i::rest)::k)) cs;cases bD with
      |returned v'=>exact cH.elim
      |panicked c=>
       refine⟨bh,a8,tmps,ds,cs,c,.inRegion ops (i::rest)::k,b4,bZ,aA.mono bZ.ext,kh.refl _ _ aA.ui,rfl,rfl,cH,?_⟩;exact .head (adV ah hw eh (dq.trans aS)) fX
      |outgrown=>exact cH.elim
    |Av=>
     have he:FI S H o.dst (qx S)=some c8:=he;cases uB:qx S with
     |none=>rw[uB] at he;cases he
     |some p=>
      obtain⟨v,bg⟩:=p;rw[uB] at he;have he:mh (S.zc bg) o.dst v H=some c8:=he;obtain⟨v',cG,t1,t2,t3,t4,t5⟩:=atx (k:=k) (ops:=ops) (i:=i) (rest:=rest) aA uB;unfold mh ob at he;cases aw:(S.zc bg).put o.dst v with
      |none=>rw[aw] at he;cases he
      |some aH=>
       rw[aw] at he;have he:some (dJ.ok aH H)=some c8:=he;injection he with he;subst he
       obtain⟨a,b,c,_,_⟩:=Uq t3 t2 aw;exact⟨μ,w,_,ds,cG,h,Step.refl _ _,a,t4,b,c,.one (au5 ah hw t5 bn t1)⟩
end
end
end Go.Cre
namespace Go.Cre
noncomputable section
open Go.RowKit
section
variable {P:Program}{B:Nat->Prop}{w0 w:World}{μ:bY}{H H':ar}{S:aZ}{fr:Frame}{tmps:Array Value}{ds:List Deferred}{cs:List Frame}{call:eI}{aJ:hl}
variable {ops:Array Oper}{k:List Item}
theorem k'.steps{m m':Machine}{todo:List Item}{c8:dJ}(hs:Steps P m m')(h:k' P B w0 μ H S fr cs m' todo c8):k' P B w0 μ H S fr cs m todo c8:=by
 cases c8 with
 |ok aH H'=>obtain⟨a,b,c,d,e,b4,bZ,cH,fX,gf,hc,gU⟩:=h;exact⟨a,b,c,d,e,b4,bZ,cH,fX,gf,hc,hs.trans gU⟩
 |gx chain aH H'=>obtain⟨a,b,c,d,e,x,y,b4,bZ,cH,fX,gf,hc,gU,o8⟩:=h;exact⟨a,b,c,d,e,x,y,b4,bZ,cH,fX,gf,hc,gU,hs.trans o8⟩
theorem k'.bind{a4:aZ}{H1:ar}{m:Machine}{aeh aei:List Item}{c8:dJ}(h:k' P B w0 μ H S fr cs m aeh (.ok a4 H1))
 (hk:∀fA bl AH vQ gD,b8 P B w0 fA H1 bl->Step μ fA H H1->il P fA a4 fr AH vQ gD->kh S.bR cs gD->a4.bR=S.bR->a4.cr=S.cr->k' P B w0 fA H1 a4 fr gD (lone (bP fr AH vQ aeh) gD bl) aei c8):k' P B w0 μ H S fr cs m aei c8:=by
 obtain⟨fA,bl,AH,vQ,gD,b4,bZ,cH,fX,gf,hc,gU⟩:=h;have dh:=(hk fA bl AH vQ gD b4 bZ cH fX gf hc).steps gU;cases c8 with
 |ok aH H'=>obtain⟨a,b,c,d,e,aL,aG,bt,du,fU,ih,mK⟩:=dh;exact⟨a,b,c,d,e,aL,bZ.trans aG,bt,fX.trans (gf▸du),fU.trans gf,ih.trans hc,mK⟩
 |gx chain aH H'=>obtain⟨a,b,c,d,e,x,y,aL,aG,bt,du,fU,ih,mK,oS⟩:=dh;exact⟨a,b,c,d,e,x,y,aL,bZ.trans aG,bt,fX.trans (gf▸du),fU.trans gf,ih.trans hc,mK,oS⟩
theorem akq(hO:pC P B w0 call)(nA:xi P B w0 aJ)(l:List Oper):∀(i:Nat) (μ:bY) (w:World) (S:aZ) (H:ar) (tmps:Array Value) (ds:List Deferred) (cs:List Frame) (c8:dJ),
 ops.toList.drop i=l->b8 P B w0 μ H w->il P μ S fr tmps ds cs->El P call aJ ops.toList l S H=some c8->
 k' P B w0 μ H S fr cs (lone (bP fr tmps ds (.inRegion ops (List.range' i l.length)::k)) cs w) k c8:=by
 induction l with
 |nil=>
  intro i μ w S H tmps ds cs c8 _ h aA he;have he:some (dJ.ok S H)=some c8:=he;injection he with he;subst he
  exact⟨μ,w,tmps,ds,cs,h,Step.refl _ _,aA,kh.refl _ _ aA.ui,rfl,rfl,.one UX⟩
 |cons o l aP=>
  intro i μ w S H tmps ds cs c8 au h aA he;have he:X6 (El P call aJ ops.toList l) (one P call aJ ops.toList S H o)=some c8:=he;have ah:ops[i]?=some o:=by
   have:(ops.toList.drop i)[0]?=some o:=by rw[au];rfl
   simpa using this
  have B0:ops.toList.drop (i+1)=l:=by
   have:(ops.toList.drop i).drop 1=l:=by rw[au];rfl
   rw[zk] at this;exact this
  show k' P B w0 μ H S fr cs (lone (bP fr tmps ds (.inRegion ops (i::List.range' (i+1) l.length)::k)) cs w) k c8;cases nw:one P call aJ ops.toList S H o with
  |none=>rw[nw] at he;cases he
  |some dq=>
   rw[nw] at he;have ad:=CT (k:=k) (rest:=List.range' (i+1) l.length) hO nA h aA ah nw;cases dq with
   |gx chain a4 H1=>
    have he:some (dJ.gx chain a4 H1)=some c8:=he;injection he with he;subst he
    exact ad
   |ok a4 H1=>
    have he:El P call aJ ops.toList l a4 H1=some c8:=he;exact ad.bind fun fA bl AH vQ gD b4 _ cH _ _ _=>aP (i+1) fA bl a4 H1 AH vQ gD c8 B0 b4 cH he
end
end
end Go.Cre
namespace Go.Cre
noncomputable section
open Go.RowKit
section
variable {P:Program}{H:ar}{S aH:aZ}{o:Oper}{call:eI}{aJ:hl}
theorem JG{T dZ:a0 Value}:∀{l:List Operand},(∀x∈l,a3 dZ H x=a3 T H x)->fL dZ H l=fL T H l:=by
 intro l;induction l with
 |nil=>intro _;rfl
 |cons x l aP=>
  intro h;simp only[fL];rw[h x (by simp),aP fun y ap=>h y (by simp[ap])]
theorem acv{T dZ:a0 Value}:∀{l:List (Nat×Operand)},(∀x∈l.map (·.2),a3 dZ H x=a3 T H x)->lV dZ H l=lV T H l:=by
 intro l;induction l with
 |nil=>intro _;rfl
 |cons x l aP=>
  intro h;obtain⟨i,x⟩:=x;simp only[lV];rw[h x (by simp),aP fun y ap=>h y (by simp at ap ⊢;exact .inr ap)]
theorem akr{T dZ:a0 Value}(hs:∀cs b,o.op≠.select cs b)(h:∀x∈o.op.operands,a3 dZ H x=a3 T H x):fl P dZ H o=fl P T H o:=by
 unfold fl;rw[JG fun x aa=>h x (by simpa using aa)];have:execOp (qs dZ H) o=execOp (qs T H) o:=execOp_congr o hs fun x aa=>by unfold qs;rw[h x aa]
 rw[this]
theorem aco{T dZ:a0 Value}{x:Option Operand}(h:∀y∈x.toArray,a3 dZ H y=a3 T H y):iy dZ H x=iy T H x:=by
 cases x with
 |none=>rfl
 |some x=>simp only[iy];rw[h x (by simp)]
theorem Hv(ao:aH.cr=S.cr)(h:∀x∈o.op.operands,a3 aH.T H x=a3 S.T H x):cz P call aJ aH H o=cz P call aJ S H o:=by
 have fv:(∀cs b,o.op≠.select cs b)->fl P aH.T H o=fl P S.T H o:=fun hs=>akr hs h;unfold cz e4;obtain⟨dst,op,type,pos,after,guard⟩:=o;simp only at h fv;cases op<;>simp only[Op.operands] at h<;>simp only
 case move x=>show g9 (a3 aH.T H x) H=g9 (a3 S.T H x) H;rw[h x (by simp)]
 case assign x=>show g9 (a3 aH.T H x) H=g9 (a3 S.T H x) H;rw[h x (by simp)]
 case pick c a b=>
  show At P _ a b (a3 aH.T H c)=At P _ a b (a3 S.T H c);rw[h c (by simp)];have ax:a3 aH.T H a=a3 S.T H a:=h a (by simp);have aS:a3 aH.T H b=a3 S.T H b:=h b (by simp);unfold At ev.a3;simp only[ax,aS]
 case alloc e=>rfl
 case box e x=>show JB P _ e (a3 aH.T H x)=JB P _ e (a3 S.T H x);rw[h x (by simp)];rfl
 case build t ps=>show CU P _ t (lV aH.T H ps.toList)=CU P _ t (lV S.T H ps.toList);rw[acv fun x aa=>h x (by simpa using aa)];rfl
 case buildSlice t n ps=>show JC P _ t n (lV aH.T H ps.toList)=JC P _ t n (lV S.T H ps.toList);rw[acv fun x aa=>h x (by simpa using aa)];rfl
 case load t a=>show CX P _ t (a3 aH.T H a)=CX P _ t (a3 S.T H a);rw[h a (by simp)];rfl
 case store t a v=>show FK P _ t (a3 aH.T H a) (a3 aH.T H v)=FK P _ t (a3 S.T H a) (a3 S.T H v);rw[h a (by simp),h v (by simp)];rfl
 case nilCheck x=>show C0 P _ (a3 aH.T H x)=C0 P _ (a3 S.T H x);rw[h x (by simp)];rfl
 case binOp op t x y u=>
  have aw:=fv (fun _ _=>by simp);show lU P _ op t (a3 aH.T H x) (a3 aH.T H y)=lU P _ op t (a3 S.T H x) (a3 S.T H y);rw[h x (by simp),h y (by simp)];have EY:∀a b,uO P ⟨call,aJ,aH,H,⟨dst,.binOp op t x y u,type,pos,after,guard⟩⟩ op t a b=uO P ⟨call,aJ,S,H,⟨dst,.binOp op t x y u,type,pos,after,guard⟩⟩ op t a b:=fun a b=>by
   unfold uO ev.oQ;simp only[aw];unfold wN;rfl
  unfold lU Ud ev.oQ;simp only[aw,EY]
 case unOp op t x=>
  have aw:=fv (fun _ _=>by simp);exact aw
 case convert s d x=>
  have aw:=fv (fun _ _=>by simp);show yN P _ s d (a3 aH.T H x)=yN P _ s d (a3 S.T H x);rw[h x (by simp)];unfold yN ev.oQ;simp only[aw]
 case makeInterface t x=>show CZ P _ t (a3 aH.T H x) _=CZ P _ t (a3 S.T H x) _;rw[h x (by simp)];rfl
 case makeFunc fn first captured=>
  show CY P _ fn (fL aH.T H first.toList) (fL aH.T H captured.toList)=CY P _ fn (fL S.T H first.toList) (fL S.T H captured.toList);rw[JG fun x aa=>h x (by simp at aa;simp[aa]),JG fun x aa=>h x (by simp at aa;simp[aa])];rfl
 case makeSlice t l c=>show JD P _ t (a3 aH.T H l) (a3 aH.T H c)=JD P _ t (a3 S.T H l) (a3 S.T H c);rw[h l (by simp),h c (by simp)];rfl
 case slice t x lo ak fF=>
  have aw:=fv (fun _ _=>by simp);cases fF with
  |some m=>rfl
  |none=>
   show nF P _ t (a3 aH.T H x) (iy aH.T H lo) (iy aH.T H ak)=nF P _ t (a3 S.T H x) (iy S.T H lo) (iy S.T H ak);rw[h x (by simp),aco (x:=lo) fun y ap=>h y (by simp at ap;simp[ap]),aco (x:=ak) fun y ap=>h y (by simp at ap;simp[ap])];unfold nF ev.oQ;simp only[aw]
 case fieldAddr t x f=>show CW P _ t f (a3 aH.T H x)=CW P _ t f (a3 S.T H x);rw[h x (by simp)];rfl
 case field t x f=>show FJ P _ f (a3 aH.T H x) _=FJ P _ f (a3 S.T H x) _;rw[h x (by simp)];rfl
 case indexAddr t x i=>show yO P _ t (a3 aH.T H x) (a3 aH.T H i)=yO P _ t (a3 S.T H x) (a3 S.T H i);rw[h x (by simp),h i (by simp)];rfl
 case index t x i=>show As P _ (a3 aH.T H x) (a3 aH.T H i) _=As P _ (a3 S.T H x) (a3 S.T H i) _;rw[h x (by simp),h i (by simp)];rfl
 case typeAssert x t a ok=>show C1 P _ a ok (a3 aH.T H x)=C1 P _ a ok (a3 S.T H x);rw[h x (by simp)];rfl
 case extract x dz=>show CV P _ dz (a3 aH.T H x)=CV P _ dz (a3 S.T H x);rw[h x (by simp)];rfl
 case call c=>
  have aw:=fv (fun _ _=>by simp);have n1:fL aH.T H c.args.toList=fL S.T H c.args.toList:=JG fun x aa=>h x (by simp[Call.operands,Gi.1 aa]);show kN P _ c=kN P _ c;unfold kN;cases aC:c.callee with
  |builtin b=>
   simp only
   unfold qS;simp only[n1,aw]
  |value f=>
   have aA:a3 aH.T H f=a3 S.T H f:=h f (by simp[Call.operands,aC]);simp only
   unfold nm;simp only[n1,aC,aA]
  |invoke r m=>
   have aA:a3 aH.T H r=a3 S.T H r:=h r (by simp[Call.operands,aC]);simp only
   unfold nm;simp only[n1,aC,aA]
 case defer c=>
  have n1:fL aH.T H c.args.toList=fL S.T H c.args.toList:=JG fun x aa=>h x (by simp[Call.operands,Gi.1 aa]);show wO P _ c=wO P _ c;unfold wO Hs;simp only[ao,n1];cases aC:c.callee with
  |builtin b=>rfl
  |value f=>
   have aA:a3 aH.T H f=a3 S.T H f:=h f (by simp[Call.operands,aC]);simp only[aA]
  |invoke r m=>
   have aA:a3 aH.T H r=a3 S.T H r:=h r (by simp[Call.operands,aC]);simp only[aA]
 case panic x=>show JE P _ (a3 aH.T H x)=JE P _ (a3 S.T H x);rw[h x (by simp)];rfl
end
end
end Go.Cre
namespace Go.Cre
noncomputable section
open Go.RowKit
section
variable {P:Program}{H H':ar}{S aH:aZ}{o:Oper}{call:eI}{aJ:hl}{v:Value}
theorem qD{x:Option Value}(he:g9 x H=some (.val v H')):H'=H:=by
 cases x with
 |none=>cases he
 |some x=>have he:some (cP.val x H)=some (.val v H'):=he;injection he with he;injection he with _ he;exact he.symm
theorem aks{T:a0 Value}(he:fl P T H o=some (.val v H')):H'=H:=by
 unfold fl at he;cases ad:fL T H o.op.operands.toList with
 |none=>rw[ad] at he;cases he
 |some vs=>
  rw[ad] at he;cases ae:vs.all plain with
  |false=>simp only[ae] at he;cases he
  |true=>
   simp only[ae,cd] at he;cases aD:eR P (execOp (qs T H) o) with
   |none=>rw[aD] at he;cases he
   |some r=>
    rw[aD] at he;cases r with
    |value u=>
     simp only at he;cases a6:plain u with
     |false=>rw[a6] at he;cases he
     |true=>rw[a6] at he;injection he with he;injection he with _ he;exact he.symm
    |skip=>injection he with he;cases he
    |_=>cases he
theorem acq{a b:Option cP}(aF:a=some (.val v H')->H'=H)(ai:b=some (.val v H')->H'=H)(he:orElse a b=some (.val v H')):H'=H:=by
 cases a with
 |none=>exact ai he
 |some a=>exact aF he
theorem NS{n:Int}{k:IntKind}(he:rN n (qy H k)=some (.val v H')):H'=H:=by
 rcases n with(_|m)|(_|m)<;>(injection he with he;injection he with _ he;exact he.symm)
theorem atK{b:Bool}(he:yX H b=some (.val v H')):H'=H:=by
 cases b<;>(injection he with he;injection he with _ he;exact he.symm)
theorem ag0{b:Bool}{u:Value}(h:(bif b then none else some (cP.val u H))=some (.val v H')):H'=H:=by
 cases b<;>simp at h;exact h.2.symm
theorem X5(aC:Ff o.op=false)(aF:Ah o.op=false)(he:cz P call aJ S H o=some (.val v H'))(h6:H'.an=H.an):H'=H:=by
 unfold cz e4 at he;obtain⟨dst,op,type,pos,after,guard⟩:=o;have fv:∀o',fl P S.T H o'=some (.val v H')->H'=H:=fun o' q=>aks q;cases op<;>simp only[Ff,Ah] at aC aF<;>simp only at he
 case move x=>exact qD (x:=a3 S.T H x) he
 case assign x=>exact qD (x:=a3 S.T H x) he
 case pick c a b=>
  have he:At P _ a b (a3 S.T H c)=_:=he;unfold At at he;split at he
  ·exact qD he
  ·exact qD he
  ·cases he
 case alloc=>cases aF
 case box=>cases aF
 case build t ps=>
  have he:CU P _ t (lV S.T H ps.toList)=_:=he;unfold CU at he;split at he
  ·exact qD he
  ·cases he
 case buildSlice=>cases aF
 case load t a=>
  have he:CX P _ t (a3 S.T H a)=_:=he;unfold CX at he;split at he
  ·exact qD he
  ·cases he
 case nilCheck x=>
  have he:C0 P _ (a3 S.T H x)=_:=he;unfold C0 at he;split at he<;>first|(injection he with he;injection he with _ he;exact he.symm)|cases he
 case binOp op t x y u=>
  have he:lU P _ op t (a3 S.T H x) (a3 S.T H y)=_:=he;have EY:∀X:ev,X.H=H->X.S=S->∀a b,uO P X op t a b=some (.val v H')->H'=H:=fun X ft al a b q=>by
   unfold uO at q;refine acq (fun q=>?_) (fun q=>?_) q
   ·unfold ev.oQ at q;rw[ft,al] at q;exact fv _ q
   ·unfold wN at q;split at q
    ·split at q
     ·injection q with q;injection q with _ q;rw[<-q,ft]
     ·cases q
    ·split at q
     ·injection q with q;injection q with _ q;rw[<-q,ft]
     ·cases q
    ·cases q
  unfold lU at he;split at he
  ·unfold Ud at he;rename_i k a l b _ _;cases hk:mD k l with
   |false=>rw[hk,dK] at he;exact EY _ (by rfl) (by rfl) _ _ he
   |true=>
    rw[hk,cd] at he;unfold jJ at he;split at he<;>first|exact NS he|exact atK he|exact fv _ he
  ·exact EY _ (by rfl) (by rfl) _ _ he
  ·cases he
 case unOp op t x=>exact fv _ he
 case convert s d x=>
  have he:yN P _ s d (a3 S.T H x)=_:=he;unfold yN at he;split at he
  ·cases he
  ·rename_i oV _;cases av:xV P H s d oV with
   |none=>rw[av] at he;exact fv _ he
   |some p=>
    obtain⟨u,H1⟩:=p;rw[av] at he;have he:some (cP.val u H1)=some (.val v H'):=he;injection he with he;injection he with _ he;subst he
    have:=akx av;omega
  ·exact qD he
  ·exact qD he
  ·split at he
   ·exact NS he
   ·exact fv _ he
  ·exact fv _ he
 case makeInterface t x=>
  have he:CZ P _ t (a3 S.T H x) (P.underlying t)=_:=he;unfold CZ at he;split at he<;>first|(injection he with he;injection he with _ he;exact he.symm)|cases he
 case makeFunc fn first captured=>
  have he:CY P _ fn (fL S.T H first.toList) (fL S.T H captured.toList)=_:=he;unfold CY at he;split at he
  ·split at he
   ·cases he
   ·injection he with he;injection he with _ he;exact he.symm
  ·cases he
 case makeMap=>cases aF
 case makeSlice=>cases aF
 case slice t x lo ak fF=>
  cases fF with
  |some m=>cases he
  |none=>
   have he:nF P _ t (a3 S.T H x) (iy S.T H lo) (iy S.T H ak)=_:=he;unfold nF at he;split at he
   ·exact acq (fun q=>qD q) (fun q=>fv _ q) he
   ·cases he
 case fieldAddr t x f=>
  have he:CW P _ t f (a3 S.T H x)=_:=he;unfold CW at he;split at he
  ·exact qD he
  ·cases he
 case field t x f=>
  have he:FJ P _ f (a3 S.T H x) (P.underlying t)=_:=he;unfold FJ at he;split at he
  ·split at he
   ·exact qD he
   ·cases he
  ·cases he
 case indexAddr t x i=>
  have he:yO P _ t (a3 S.T H x) (a3 S.T H i)=_:=he;unfold yO at he;split at he
  ·exact qD he
  ·cases he
 case index t x i=>
  have he:As P _ (a3 S.T H x) (a3 S.T H i) (P.underlying t)=_:=he;unfold As at he;split at he
  ·split at he
   ·exact qD he
   ·cases he
  ·split at he
   ·split at he
    ·exact NS he
    ·cases he
   ·cases he
  ·cases he
 case typeAssert x t a ok=>
  have he:C1 P _ a ok (a3 S.T H x)=_:=he;unfold C1 at he;split at he
  ·exact qD he
  ·cases he
 case extract x dz=>
  have he:CV P _ dz (a3 S.T H x)=_:=he;unfold CV at he;split at he
  ·exact qD he
  ·cases he
 case call c=>
  have he:kN P _ c=_:=he;obtain⟨callee,args,argTypes⟩:=c;unfold kN at he;cases callee with
  |value f=>cases aC
  |invoke r m=>cases aC
  |builtin b=>
   simp only at he aC;unfold qS at he;split at he
   ·cases he
   ·cases b<;>simp only at aC<;>first|cases aC|skip
    all_goals simp only at he
    all_goals first
     |exact fv _ he
     |skip
    all_goals (
     split at he
     all_goals first
      |contradiction
      |exact fv _ he
      |(cases he;done)
      |(cases he;rfl)
      |skip
     all_goals (
      split at he
      all_goals first
       |contradiction
       |exact fv _ he
       |(cases he;done)
       |(cases he;rfl)
       |exact ag0 he
       |(split at he<;>first|(cases he;done)|exact NS he)
       |(split at he<;>first|(cases he;done)|(cases he;rfl))))
 all_goals first|(cases aC;done)|(cases he;done)
end
end
end Go.Cre
namespace Go.Cre
noncomputable section
open Go.RowKit
theorem a0.HE{α:Type}(t:a0 α):∀(p:Nat->Bool) (n:Nat),(t.gn p).get n=if p n then t.get n else none:=by
 induction t with
 |leaf=>intro p n;simp[a0.gn,a0.Yx]
 |node v l r yr yt=>
  intro p n;cases n with
  |zero=>simp[a0.gn,a0.HF]
  |succ m=>
   simp only[a0.gn,a0.rO];by_cases h:m % 2=0
   ·rw[aV h,aV h,yr];have:2*(m / 2)+1=m+1:=by omega
    rw[this]
   ·rw[aQ h,aQ h,yt];have:2*(m / 2)+2=m+1:=by omega
    rw[this]
theorem a0.acQ{α:Type}{a:α}{t:a0 α}:∀{lx:a0 α} {n:Nat} (p:Nat->Bool),a0.put a t n=some lx->∃avs,a0.put a (t.gn p) n=some avs:=by
 induction t with
 |leaf=>
  intro lx n p h;exact⟨lx,h⟩
 |node v l r yr yt=>
  intro lx n p h;cases n with
  |zero=>exact⟨_,rfl⟩
  |succ m=>
   simp only[a0.gn];rw[a0.NK] at h ⊢;by_cases hm:m % 2=0
   ·rw[aV hm] at h ⊢;cases aq:a0.put a l (m / 2) with
    |none=>rw[aq] at h;cases h
    |some l'=>obtain⟨MX,e⟩:=yr (fun k=>p (2*k+1)) aq;rw[e];exact⟨_,rfl⟩
   ·rw[aQ hm] at h ⊢;cases ao:a0.put a r (m / 2) with
    |none=>rw[ao] at h;cases h
    |some cv=>obtain⟨aAY,e⟩:=yt (fun k=>p (2*k+2)) ao;rw[e];exact⟨_,rfl⟩
theorem aZ.put_eq{S aH:aZ}{dst:Option Tmp}{v:Value}(he:S.put dst v=some aH):
 aH.n=S.n/\aH.ds=S.ds/\aH.bR=S.bR/\aH.bg=S.bg/\aH.cr=S.cr/\∀t,aH.T.get t=if dst=some t then some v else S.T.get t:=by
 cases dst with
 |none=>
  have he:some S=some aH:=he;injection he with he;subst he
  exact⟨rfl,rfl,rfl,rfl,rfl,fun t=>by simp⟩
 |some d=>
  obtain⟨T,n,gd,bR,bg,cr⟩:=S;have he:Bool.rec (motive:=fun _=>Option aZ) none (aZ.qw n gd bR bg cr (a0.put v T d)) (Nat.ble (Nat.succ d) n)=some aH:=he;cases ai:Nat.ble (Nat.succ d) n with
  |false=>rw[ai] at he;cases he
  |true=>
   rw[ai] at he;have he:aZ.qw n gd bR bg cr (a0.put v T d)=some aH:=he;cases aw:a0.put v T d with
   |none=>rw[aw] at he;cases he
   |some dZ=>
    rw[aw] at he;have he:some (aZ.mk dZ n gd bR bg cr)=some aH:=he;injection he with he;subst he
    refine⟨rfl,rfl,rfl,rfl,rfl,fun t=>?_⟩;show dZ.get t=_;rw[a0.get_put aw];by_cases h:t=d
    ·subst h;simp
    ·rw[aQ h,aQ (fun q=>h (by injection q with q;exact q.symm))]
theorem aZ.as'{S aH:aZ}{dst:Option Tmp}{v:Value}(p:Nat->Bool)(he:S.put dst v=some aH):∃pU,(S.only p).put dst v=some pU:=by
 cases dst with
 |none=>exact⟨_,rfl⟩
 |some d=>
  obtain⟨T,n,gd,bR,bg,cr⟩:=S;have he:Bool.rec (motive:=fun _=>Option aZ) none (aZ.qw n gd bR bg cr (a0.put v T d)) (Nat.ble (Nat.succ d) n)=some aH:=he;show ∃pU,Bool.rec (motive:=fun _=>Option aZ) none (aZ.qw n gd bR bg cr (a0.put v (T.gn p) d)) (Nat.ble (Nat.succ d) n)=some pU;cases ai:Nat.ble (Nat.succ d) n with
  |false=>rw[ai] at he;cases he
  |true=>
   rw[ai] at he;have he:aZ.qw n gd bR bg cr (a0.put v T d)=some aH:=he;cases aw:a0.put v T d with
   |none=>rw[aw] at he;cases he
   |some dZ=>
    obtain⟨axJ,e⟩:=a0.acQ p aw;rw[e];exact⟨_,rfl⟩
section
variable {P:Program}{H:ar}{T dZ:a0 Value}{ops:List Oper}{o:Oper}
theorem aa3{t:Tmp}(h:Operand.tmp t∈o.op.operands):t∈looks ops o:=by
 unfold looks;exact om _ (List.mem_filterMap.2 ⟨.tmp t,by simpa using h,rfl⟩)
theorem JF(h:∀t∈looks ops o,dZ.get t=T.get t):∀x∈o.op.operands,a3 dZ H x=a3 T H x:=fun x aa=>by
 cases x with
 |tmp t=>exact h t (aa3 aa)
 |const c=>rfl
 |global g=>rfl
 |func f=>rfl
theorem asu(h:∀t∈looks ops o,dZ.get t=T.get t):∀x∈o.op.operands,rh dZ x=rh T x:=fun x aa=>by
 cases x with
 |tmp t=>exact h t (aa3 aa)
 |const c=>rfl
 |global g=>rfl
 |func f=>rfl
theorem sP(h:∀t∈looks ops o,dZ.get t=T.get t):fT ops dZ o=fT ops T o:=by
 unfold fT;cases ay:o.guard with
 |none=>rfl
 |some q=>
  obtain⟨j,want⟩:=q;show vY ops dZ (j,want)=vY ops T (j,want);unfold vY;simp only
  cases aE:nth ops j with
  |none=>rfl
  |some p=>
   simp only
   cases au:p.dst with
   |none=>rfl
   |some d=>
    simp only
    rw[h d (by unfold looks;rw[ay];simp only[aE,au];exact ki _ (by simp))]
theorem asD:∀{l:List (Nat×Operand)},(∀x∈l.map (·.2),rh dZ x=rh T x)->ti dZ l=ti T l:=by
 intro l;induction l with
 |nil=>intro _;rfl
 |cons x l aP=>
  intro h;obtain⟨i,x⟩:=x;simp only[ti];rw[h x (by simp),aP fun y ap=>h y (by simp at ap ⊢;exact .inr ap)]
theorem Ps(h:∀t∈looks ops o,dZ.get t=T.get t):nT P dZ o.op=nT P T o.op:=by
 have h:=asu h;cases ah:o.op<;>rw[ah] at h<;>simp only[Op.operands] at h<;>simp only[nT]
 case box e x=>rw[h x (by simp)]
 case buildSlice t n ps=>rw[asD fun x aa=>h x (by simpa using aa)]
 case makeSlice t l c=>rw[h l (by simp),h c (by simp)]
 case makeMap t r=>cases r<;>rfl
end
theorem agy{f:Value->Value->Bool}(aA:∀x y,f x y=true->x=y):∀{l m:List Value},je f l m=true->l=m:=by
 intro l;induction l with
 |nil=>intro m h;cases m with
  |nil=>rfl
  |cons=>cases h
 |cons x l aP=>intro m h;cases m with
  |nil=>cases h
  |cons y m=>
   simp only[je,gr] at h;rw[aA x y h.1,aP h.2]
theorem WJ{a b:Option Addr}(h:addrEq a b=true):a=b:=by
 unfold addrEq at h;split at h
 ·rfl
 ·simp only[gr] at h;rw[ez h.1,ez h.2]
 ·rfl
 ·cases h
theorem awN:∀{n:Nat} {a b:Value},eg n a b=true->a=b:=by
 intro n;induction n with
 |zero=>intro a b h;cases h
 |succ n aP=>
  intro a b h;have arr:∀{x y:Array Value},je (eg n) x.toList y.toList=true->x=y:=fun q=>rv (agy (fun _ _ z=>aP z) q);unfold eg at h;split at h
  ·rename_i a b;cases a<;>cases b<;>first|rfl|cases h
  ·simp only[gr] at h;rw[aaA h.1];have:=h.2;rw[Fb] at this;rw[eq_of_beq this]
  ·rename_i a b;have:=CP h;obtain⟨⟨x⟩⟩:=a;obtain⟨⟨y⟩⟩:=b;simp at this;rw[this]
  ·rw[WJ h]
  ·simp only[gr] at h;rw[WJ h.1.1,ez h.1.2,ez h.2]
  ·rename_i a b;cases a<;>cases b<;>simp only[abP] at h<;>first|rfl|cases h|(rw[ez h])
  ·rfl
  ·rfl
  ·simp only[gr] at h;rw[ez h.1,aP h.2]
  ·rw[arr h]
  ·rw[arr h]
  ·simp only[gr] at h;rename_i f a b g c d;have:f=g:=by
    have:=h.1.1;unfold QW at this;split at this
    ·rw[ez this]
    ·cases this
   rw[this,arr h.1.2,arr h.2]
  ·cases h
section
variable {P:Program}{B:Nat->Prop}{w0 w:World}{μ:bY}{H H':ar}
theorem b8.asH(h:b8 P B w0 μ H w){a:Nat}{b:fB}(aE:H.new b=some (a,H'))(ah:kI (some b)=false):b8 P B w0 μ H' w:=by
 obtain⟨rfl,ax,aS,cl,dS,cx⟩:=ar.pp aE;have ed:∀x L,μ x=some L->H'.mem.get x=H.mem.get x:=fun x L aa=>by
  have:=h.lt x L aa;rw[cx,aQ (by omega)]
 refine⟨h.below,h.ov,?_,?_,?_,?_,?_,?_,?_,?_,?_,?_⟩
 ·intro x L aa;obtain⟨b',o',ad,ae,aD⟩:=h.gC x L aa;exact⟨b',o',by rw[ed x L aa];exact ad,ae,aD⟩
 ·intro x y gH hB eN aa ap oK;rcases h.sep x y gH hB eN aa ap oK with d|d|⟨f,l,⟨c,e,z,s,q⟩,⟨c',bD,hF,cM,dG⟩,aq,cW,eE⟩
  ·exact .inl (by rw[ed x gH aa];exact d)
  ·exact .inr (.inl (by rw[ed y hB ap];exact d))
  ·exact .inr (.inr ⟨f,l,⟨c,e,z,s,by rw[ed x gH aa];exact q⟩,⟨c',bD,hF,cM,by rw[ed y hB ap];exact dG⟩,by rw[aS];exact aq,cW,eE⟩)
 ·intro x L aa;have:=h.lt x L aa;omega
 ·intro x L aa ay;exact h.own x L aa (by omega)
 ·intro x L aa ay eh;exact h.new x L aa (by omega) (by rw[ed x L aa] at eh;exact eh)
 ·intro g c e o f z s ay hm;have lN:g≠H.an:=by have:=h.kZ;omega
  rw[cx,aQ lN] at hm;exact h.ue g c e o f z s (by omega) hm
 ·have:=h.kZ;omega
 ·intro x c e f z s hm;rw[cx] at hm;split at hm
  ·injection hm with hm;rw[hm] at ah;simp[kI] at ah
  ·rw[cl];exact h.rM x c e f z s hm
 ·intro f l x aq aa;rw[aS] at aq;obtain⟨a,d⟩:=h.lK f l x aq aa;refine⟨by omega,?_⟩;rw[cx,aQ (by omega)];exact d
 ·intro f l aq;rw[aS] at aq;refine(h.vW f l aq).imp_of_mem ?_;intro x y aa ap eN c e f1 z s c' bD cF hF cM q dG;have e7:=(h.lK f l x aq aa).1;have Ae:=(h.lK f l y aq ap).1;rw[cx,aQ (by omega)] at q dG;exact eN c e _ z s c' bD cF hF cM q dG
theorem b8.fill(h:b8 P B w0 μ H w){a:Nat}{b:fB}{o:Obj}{L:Loc}(hm:μ a=none)(cD:a<H.an)(ay:H.bL<=a)(gL:H.mem.get a=some b)(ao:L.r=w.heap.size)(ai:kf P μ L b o):
 b8 P B w0 (μ.put a L) H (w.alloc o)/\Ext μ (μ.put a L):=by
 have k1:Ext μ (μ.put a L):=fun id bX aa=>by
  by_cases e:id=a
  ·subst e;rw[hm] at aa;cases aa
  ·rw[bY.uS _ _ e];exact aa
 have ed:∀x bX,(μ.put a L) x=some bX->x≠a->μ x=some bX:=fun x bX q b=>by rwa [bY.uS _ _ b] at q
 have Sl:∀x bX,μ x=some bX->bX.r<w.heap.size:=fun x bX aa=>by
  obtain⟨b',o',_,ah,_⟩:=h.gC x bX aa;rcases hH bX.r w.heap.size with dh|dh
  ·exact dh
  ·rw[tw dh] at ah;cases ah
 refine⟨⟨h.below.alloc h.ov o,?_,?_,?_,?_,?_,?_,?_,h.kZ,h.rM,h.lK,h.vW⟩,k1⟩
 ·intro k hk;have:=h.ov k hk;show k<(w.heap.push o).size;rw[VH];omega
 ·intro x bX aa;by_cases dy:x=a
  ·subst dy;rw[bY.kw] at aa;injection aa with aa;subst aa
   exact⟨b,o,gL,by rw[EL,ao];simp,ai.mono k1⟩
  ·have e7:=ed x bX aa dy;obtain⟨b',o',ad,ae,aD⟩:=h.gC x bX e7;exact⟨b',o',ad,by rw[EL,aQ (by have:=Sl x bX e7;omega)];exact ae,aD.mono k1⟩
 ·intro x y gH hB eN aa ap oK;by_cases dy:x=a
  ·subst dy;rw[bY.kw] at aa;injection aa with aa;subst aa
   have:=Sl y hB (ed y hB ap (Ne.symm eN));omega
  ·by_cases lq:y=a
   ·subst lq;rw[bY.kw] at ap;injection ap with ap;subst ap
    have:=Sl x gH (ed x gH aa dy);omega
   ·exact h.sep x y gH hB eN (ed x gH aa dy) (ed y hB ap lq) oK
 ·intro x bX aa;by_cases dy:x=a
  ·omega
  ·exact h.lt x bX (ed x bX aa dy)
 ·intro x bX aa H9;have dy:x≠a:=by omega
  exact h.own x bX (ed x bX aa dy) H9
 ·intro x bX aa H9 eh;by_cases dy:x=a
  ·subst dy;rw[bY.kw] at aa;injection aa with aa;subst aa
   rw[ao];exact fun q=>A7 _ (h.ov _ q)
  ·exact h.new x bX (ed x bX aa dy) H9 eh
 ·intro g c e o f z s H9 Sm;obtain⟨bX,a9⟩:=h.ue g c e o f z s H9 Sm;exact⟨bX,k1 _ _ a9⟩
theorem UC{cells cells':List Value}{elem:TypeId}(aC:b3 μ cells cells')(r:Nat):kf P μ ⟨r,cells.length,P.cellsOf elem⟩ (.row cells elem false 0 0 false) (.cells cells'.toArray elem):=
 ⟨rfl,by simp[aC.1],rfl,bU _,fun _=>rfl,fun i v v' a b=>aC.2 i v v' a (by simpa using b),fun off _ ad ae=>by simp at ae,fun _=>.inl rfl⟩
def jn.ok:jn->Bool
 |.C' _ c=>decide (c<cO)
 |_=>true
theorem jn.rel{eD:jn}(h:eD.ok=true){a:Nat}{L:Loc}(hm:μ a=some L):bj μ (eD.at a) (eD.at L.r):=by
 cases eD with
 |ptr=>exact .ptr a 0 L hm
 |C' l c=>exact .oc a 0 l c L hm (CP h)
 |map=>exact .map a L hm
def Ox(P:Program)(μ:bY)(w:World)(s:Sem Value)(b:fB)(eD:jn):Prop:=
 ∃jO N sz,s.run P w=.ok (eD.at w.heap.size) (w.alloc jO)/\kf P μ ⟨w.heap.size,N,sz⟩ b jO/\kI (some b)=false/\eD.ok=true
theorem WR{elem:TypeId}{v v':Value}{b:fB}{eD:jn}(av:bj μ v v')(he:Bb elem v=some (b,eD))(w:World):Ox P μ w (Instr.box elem v') b eD:=by
 unfold Bb at he;cases ah:v.cells.toList.all fh with
 |false=>rw[ah] at he;cases he
 |true=>
  rw[ah,cd] at he;simp only[cn,dr] at he;obtain⟨rfl,rfl⟩:=he;refine⟨_,_,_,?_,UC av.cells _,rfl,rfl⟩;simp[Instr.box,newVar,newRow,newObj,Sem.run,jn.at]
theorem agE{t:TypeId}{l l' c c':Value}{b:fB}{eD:jn}(aq:bj μ l l')(aC:bj μ c c')(he:GH P t l c=some (b,eD))(w:World):Ox P μ w (Instr.makeSlice t l' c') b eD:=by
 unfold GH at he;cases l with
 |int aW l=>
  cases c with
  |int aT c=>
   obtain rfl:=aq.rb;obtain rfl:=aC.rb;cases hu:P.underlying t with
   |none=>rw[hu] at he;simp at he
   |some d=>
    rw[hu] at he;cases d with
    |slice elem=>
     simp only at he;cases aM:hA P elem with
     |none=>rw[aM] at he;simp at he
     |some z=>
      rw[aM] at he;cases h9:vF P elem with
      |none=>rw[h9] at he;simp at he
      |some ju=>
       rw[h9] at he;cases hs:eV P elem with
       |none=>rw[hs] at he;simp at he
       |some sz=>
        rw[hs] at he;simp only at he;cases uk:ra c 1000000 with
        |none=>rw[uk] at he;simp at he
        |some bS=>
         rw[uk] at he;cases dQ:ra l 1000000 with
         |none=>rw[dQ] at he;simp at he
         |some gM=>
          rw[dQ] at he;simp only at he;cases x6:(Nat.ble gM bS&&Nat.ble ju 1000000&&Nat.beq z.cells.toList.length sz&&z.cells.toList.all fh&&plain z) with
          |false=>rw[x6] at he;simp at he
          |true=>
           rw[x6,cd] at he;simp only[gr] at x6;obtain⟨⟨⟨⟨aL,aG⟩,bt⟩,du⟩,fU⟩:=x6;have aL:=h3 aL;have aG:=h3 aG;have bt:=ez bt;obtain⟨rfl,gm⟩:=Fe uk;obtain⟨rfl,qa⟩:=Fe dQ;simp only[cn,dr] at he;obtain⟨rfl,rfl⟩:=he;have s8:b3 μ z.cells.toList z.cells.toList:=(qu fU).cells;have x5:b3 μ (fM z.cells.toList bS) (fM z.cells.toList bS):=b3.FV fun v av=>by
               exact Kr (p:=fun v=>bj μ v v) av (fun u hu=>by
                obtain⟨i,ak⟩:=xa.1 hu;exact s8.2 i u u ak ak)
           refine⟨_,_,_,?_,UC x5 _,rfl,jx (by have:(1000000:Nat)<cO:=by decide
                                              omega)⟩
           obtain⟨i,ak,rfl⟩:=PW h9
           have oM:i.zero=some z:=by simpa[hA,ak] using aM
           have s5:i.size=sz:=by simpa[eV,ak] using hs
           have hmul:i.bytes*bS<=1000000*1000000:=sx aG gm;have hg:=Kt z.cells.toList bS;have g8:=run_make (P:=P) w t elem i z hu ak oM aW aT (gM:Int) (bS:Int) (by omega) (by omega) (by
               have:(i.bytes:Int)*(bS:Int)=((i.bytes*bS:Nat):Int):=by simp
               rw[this];omega) (by omega)
           rw[g8];simp only[gG,jn.at];congr 3
           rw[<-hg];simp[madeCells,s5,<-bt]
    |_=>simp at he
  |_=>simp at he
 |_=>simp at he
theorem agC{t:TypeId}{len:Nat}{parts na:List (Nat×Value)}{b:fB}{eD:jn}(aw:xf μ parts na)(he:GG P t len parts=some (b,eD))(w:World):Ox P μ w (Instr.buildSlice t len na.toArray) b eD:=by
 unfold GG at he;cases hu:P.underlying t with
 |none=>rw[hu] at he;simp at he
 |some d=>
  rw[hu] at he;cases d with
  |slice elem=>
   simp only at he;cases hs:eV P elem with
   |none=>rw[hs] at he;simp at he
   |some sz=>
    rw[hs] at he;cases aM:hA P elem with
    |none=>rw[aM] at he;simp at he
    |some z=>
     rw[aM] at he;simp only at he;cases aC:(Nat.ble len 100000&&Nat.ble (len*sz) 100000&&plain z&&Nat.beq z.cells.toList.length sz) with
     |false=>rw[aC] at he;simp at he
     |true=>
      rw[aC,cd] at he;simp only[gr] at aC;obtain⟨⟨⟨hZ,aL⟩,aG⟩,bt⟩:=aC;have hZ:=h3 hZ;have aL:=h3 aL;have bt:=ez bt;cases aA:nX (fun i=>some (i*sz,sz)) (fM z.cells.toList len) parts with
      |none=>rw[aA] at he;simp at he
      |some cells=>
       rw[aA] at he;simp only at he;cases ah:cells.all fh with
       |false=>rw[ah] at he;simp at he
       |true=>
        rw[ah,cd] at he;simp only[cn,dr] at he;obtain⟨rfl,rfl⟩:=he;have s8:b3 μ z.cells.toList z.cells.toList:=(qu aG).cells;have x5:b3 μ (fM z.cells.toList len) (fM z.cells.toList len):=b3.FV fun v av=>
         Kr (p:=fun v=>bj μ v v) av (fun u hu=>by
           obtain⟨i,ak⟩:=xa.1 hu;exact s8.2 i u u ak ak)
        obtain⟨cv,a,b⟩:=LL aw x5 aA
        refine⟨_,_,_,?_,UC b _,rfl,jx (by have:(100000:Nat)<cO:=by decide
                                          omega)⟩
        have hg:=Kt z.cells.toList len;have apj:z.cells.size=sz:=by simpa using bt
        have RM:¬(16777216<len*sz):=by omega
        rw[bt] at hg;simp only[afp] at hg;by_cases aR:len*sz=0
        ·have B6:fM z.cells.toList len=[]:=w'.1 (by rw[Vz,bt];exact aR)
         rw[B6] at a;have b0:Instr.fill (fun i=>some (i*sz,sz)) (Array.map (fun _=>(default:Value)) (Array.range 0)) na=some cv.toArray:=by
          have hb:Array.map (fun _:Nat=>(default:Value)) (Array.range 0)=#[]:=by simp
          rw[hb];exact a
         simp[Instr.buildSlice,e2 hu,k7 hs,aR,b0,newRow,newObj,Sem.run,jn.at]
        ·have b0:Instr.fill (fun i=>some (i*sz,sz)) ((Array.range (len*sz)).map fun i=>z.cells[i % z.cells.size]!) na=some cv.toArray:=by rw[hg];exact a
         simp[Instr.buildSlice,e2 hu,k7 hs,RM,aR,w3 aM,b0,newRow,newObj,Sem.run,jn.at]
  |_=>simp at he
theorem NA{T:a0 Value}{n:Nat}{tmps:Array Value}(aI:kF μ T n tmps){x:Operand}{v:Value}(he:rh T x=some v):bj μ v (dc tmps x):=by
 cases x with
 |tmp t=>exact aI.2 t v he
 |const c=>
  have he:(bif plain c then some c else none)=some v:=he;cases aw:plain c with
  |false=>rw[aw] at he;simp at he
  |true=>rw[aw] at he;simp at he;subst he;exact qu aw
 |global g=>cases he
 |func f=>
  have he:some (Value.func (.func f) #[] #[])=some v:=he;injection he with he;subst he
  exact .func _ _ _ _ _ rfl rfl rfl (fun i v v' q=>by simp at q) (fun i v v' q=>by simp at q)
theorem asF{T:a0 Value}{n:Nat}{tmps:Array Value}(aI:kF μ T n tmps):∀{l:List (Nat×Operand)} {ps:List (Nat×Value)},ti T l=some ps->xf μ ps (l.map fun(i,x)=>(i,dc tmps x)):=by
 intro l;induction l with
 |nil=>intro ps h;simp[ti] at h;subst h;exact⟨rfl,fun i p ic q=>by simp at q⟩
 |cons x l aP=>
  intro ps h;obtain⟨i,x⟩:=x;simp only[ti] at h;cases ad:rh T x with
  |none=>rw[ad] at h;cases h
  |some v=>
   rw[ad] at h;cases ae:ti T l with
   |none=>rw[ae] at h;cases h
   |some r=>
    rw[ae] at h;injection h with h;subst h
    have:=aP ae;refine⟨by simp[this.1],fun j p ic q dG=>?_⟩;cases j with
    |zero=>simp at q dG;subst q;subst dG;exact⟨rfl,NA aI ad⟩
    |succ j=>exact this.2 j p ic (by simpa using q) (by simpa using dG)
theorem aaZ{t:TypeId}{r:Operand}{b:fB}{eD:jn}(he:I3 P t r=some (b,eD)):b=.dead/\eD=.map/\r=.const (.int .i64 (.ofNat 0))/\∃key el,P.underlying t=some (.map key el):=by
 unfold I3 at he;split at he
 ·cases hu:P.underlying t with
  |none=>rw[hu] at he;cases he
  |some d=>
   rw[hu] at he;cases d with
   |map a c=>
    simp only[cn,dr] at he;exact⟨he.1.symm,he.2.symm,rfl,a,c,rfl⟩
   |_=>cases he
 ·cases he
theorem agF{T:a0 Value}{n:Nat}{tmps:Array Value}{o:Oper}{b:fB}{eD:jn}(aI:kF μ T n tmps)(he:nT P T o.op=some (b,eD))(w:World):
 ∃jO N sz,(execOp (dc tmps) o).run P w=.ok (.value (eD.at w.heap.size)) (w.alloc jO)/\kf P μ ⟨w.heap.size,N,sz⟩ b jO/\kI (some b)=false/\eD.ok=true:=by
 cases ah:o.op<;>rw[ah] at he<;>simp only[nT] at he
 case alloc elem=>
  cases aM:hA P elem with
  |none=>rw[aM] at he;cases he
  |some z=>
   rw[aM] at he;cases aw:plain z with
   |false=>simp only[aw] at he;cases he
   |true=>
    simp only[aw,cd] at he;obtain⟨jO,N,sz,ba,bd,cm,cQ⟩:=WR (P:=P) (qu (μ:=μ) aw) he w;refine⟨jO,N,sz,?_,bd,cm,cQ⟩;have:(Instr.alloc elem true (.tuple #[])).run P w=.ok (eD.at w.heap.size) (w.alloc jO):=by simpa[Instr.alloc,Instr.box,w3 aM] using ba
    simp[execOp,ah,this]
 case box elem x=>
  cases aa:rh T x with
  |none=>rw[aa] at he;cases he
  |some v=>
   rw[aa] at he;obtain⟨jO,N,sz,ba,bd,cm,cQ⟩:=WR (P:=P) (NA aI aa) he w;exact⟨jO,N,sz,by simp[execOp,ah,ba],bd,cm,cQ⟩
 case buildSlice t len parts=>
  cases aa:ti T parts.toList with
  |none=>rw[aa] at he;cases he
  |some ps=>
   rw[aa] at he;obtain⟨jO,N,sz,ba,bd,cm,cQ⟩:=agC (P:=P) (asF aI aa) he w;have ax:(parts.toList.map fun(i,x)=>(i,dc tmps x)).toArray=parts.map fun(i,x)=>(i,dc tmps x):=by apply rv;simp
   rw[ax] at ba;exact⟨jO,N,sz,by simp[execOp,ah,ba],bd,cm,cQ⟩
 case makeMap t r=>
  cases r with
  |some r=>
   obtain⟨rfl,rfl,rfl,key,el,hu⟩:=aaZ (show I3 P t r=some (b,eD) from he);exact⟨.map #[] 0,0,0,by simp[execOp,ah,Instr.makeMap,newObj,Sem.run,jn.at,e2 hu,dc,asInt,asIntOf],trivial,rfl,rfl⟩
  |none=>
   simp only[cn,dr] at he;obtain⟨rfl,rfl⟩:=he;exact⟨.map #[] 0,0,0,by simp[execOp,ah,Instr.makeMap,newObj,Sem.run,jn.at],AV.nil _,rfl,rfl⟩
 case makeSlice t l c=>
  cases ad:rh T l with
  |none=>rw[ad] at he;cases he
  |some r6=>
   cases ae:rh T c with
   |none=>rw[ad,ae] at he;cases he
   |some lH=>
    rw[ad,ae] at he;obtain⟨jO,N,sz,ba,bd,cm,cQ⟩:=agE (P:=P) (NA aI ad) (NA aI ae) he w;exact⟨jO,N,sz,by simp[execOp,ah,ba],bd,cm,cQ⟩
 all_goals cases he
end
end
end Go.Cre

/- A part of the proof of TableRounds. -/
import Derived.Test.YtfdhclnfkafebaaGreatDoorCag
import Derived.Orders
set_option linter.unusedVariables false
set_option linter.unusedSimpArgs false
namespace Go.Cre
noncomputable section
open Go.RowKit
section
variable {P:Program}{B:Nat->Prop}{w0 w:World}{μ:b5}{H H':aw}{S:a5}{fr:Frame}{tmps:Array Value}{ds:List Deferred}{cs:List Frame}{call:eZ}{aQ:hd}
variable {ops:Array Oper}{i:Nat}{rest:List Nat}{k:List Item}{o:Oper}
theorem ib.vb(aM:ib μ S fr tmps ds cs):S.cb=true->∃c rest,cs=c::rest:=fun q=>by obtain⟨c,r,a,_⟩:=aM.bE q;exact⟨c,r,a⟩
theorem aem{r:cT}(he:cL P call aQ S H o=some r){c:Call}(aj:o.op=.defer c):S.cP=none:=by
 unfold cL e3 at he;simp only at he;rw[aj] at he;have he:vH P ⟨call,aQ,S,H,o⟩ c=some r:=he;unfold vH at he;cases av:S.cP with
 |none=>rfl
 |some l=>simp only[av] at he;cases he
theorem Bw{v v':Value}{bw:b5}{H':aw}{bn:World}{m:Machine}{b1:dI}(aM:ib bw S fr tmps ds cs)(fR:cd P B w0 bw H' bn)(ag:Step μ bw H H')(az:bu bw v v')
 (dR:Steps P m (lone (bY fr (uc tmps o.dst v') ds (.inRegion ops rest::k)) cs bn))(he:mr S o.dst v H'=some b1):lj P B w0 μ H S fr cs m (.inRegion ops rest::k) b1:=by
 unfold mr ot at he;cases ap:S.put o.dst v with
 |none=>rw[ap] at he;cases he
 |some aP=>
  rw[ap] at he;have he:some (dI.ok aP H')=some b1:=he;injection he with he;subst he
  obtain⟨a,b,c,_,_⟩:=Rm aM az ap;exact⟨bw,bn,_,ds,cs,fR,ag,a,kn.refl _ _ aM.vb,b,c,dR⟩
theorem lj.congr{S bl:a5}{m:Machine}{todo:List Item}{b1:dI}(ad:bl.cb=S.cb)(af:bl.cP=S.cP)(h:lj P B w0 μ H bl fr cs m todo b1):lj P B w0 μ H S fr cs m todo b1:=by
 cases b1 with
 |ok aP H'=>obtain⟨a,b,c,d,e,ck,ch,c6,gg,gh,hg,gW⟩:=h;exact⟨a,b,c,d,e,ck,ch,c6,ad▸gg,gh.trans ad,hg.trans af,gW⟩
 |jc chain aP H'=>obtain⟨a,b,c,d,e,x,y,ck,ch,c6,gg,gh,hg,gW,qk⟩:=h;exact⟨a,b,c,d,e,x,y,ck,ch,c6,ad▸gg,gh.trans ad,hg.trans af,gW,qk⟩
theorem aov{ops:Array Oper}{i:Nat}{rest:List Nat}{o:Oper}{bn:World}{v:Value}{cN:List Frame}(aj:ops[i]?=some o)(hw:Region.wanted o (yielded ops tmps)=true)(tL:fr.roundOf=none)
 (av:(execOp (df tmps) o).run P w=.ok .recover bn)(aS:(tryRecover (bY fr tmps ds (.inRegion ops (i::rest)::k)) cs).getD (.nilIface,cs)=(v,cN)):
 step P (lone (bY fr tmps ds (.inRegion ops (i::rest)::k)) cs w)=.next (lone (bY fr (uc tmps o.dst v) ds (.inRegion ops rest::k)) cN bn):=by
 rw[<-Af aj];refine step_lone_go ?_;rw[BA aj hw (.inl tL)];have Ws:(bY fr tmps ds (.inRegion ops (i::rest)::k)).roundOf=none:=tL;cases ab:tryRecover (bY fr tmps ds (.inRegion ops (i::rest)::k)) cs with
 |none=>
  rw[ab] at aS;simp at aS;obtain⟨rfl,rfl⟩:=aS;simp[stepG.apply,av,Ws,ab]
 |some p=>
  obtain⟨v1,gA⟩:=p;rw[ab] at aS;simp at aS;obtain⟨rfl,rfl⟩:=aS;simp[stepG.apply,av,Ws,ab]
theorem ang{ops:Array Oper}{i:Nat}{rest:List Nat}{v:Value}{bE:FrameMode}(aM:ib μ S fr tmps ds cs)(he:rE S=some (v,bE)):
 ∃v' cN,(tryRecover (bY fr tmps ds (.inRegion ops (i::rest)::k)) cs).getD (.nilIface,cs)=(v',cN)/\bu μ v v'/\ib μ (S.x1 bE) fr tmps ds cN/\kn S.cb cs cN/\fr.roundOf=none:=by
 unfold rE at he;cases tL:S.cP with
 |some l=>rw[tL] at he;cases he
 |none=>
  rw[tL] at he;have dj:=aM.vL tL;obtain⟨T,n,fQ,cb,H3,cP⟩:=S;cases cb with
  |false=>
   simp only[dB] at he;injection he with he;injection he with aC aW;subst aC;subst aW
   have hk:(bY fr tmps ds (.inRegion ops (i::rest)::k)).kind=.normal:=aM.kind;have:tryRecover (bY fr tmps ds (.inRegion ops (i::rest)::k)) cs=none:=by
    cases cs<;>simp[tryRecover,hk]
   rw[this];exact⟨_,_,rfl,bu.atom _ rfl,aM,rfl,dj⟩
  |true=>
   simp only[cv] at he;have hk:(bY fr tmps ds (.inRegion ops (i::rest)::k)).kind=.deferred:=aM.kind;obtain⟨c,Bz,rfl,hm⟩:=aM.bE rfl;rw[tryRecover_deferred hk];have hA:recoverD (c::Bz)=none->v=.nilIface->bE=H3->∃v' cN,(recoverD (c::Bz)).getD (.nilIface,c::Bz)=(v',cN)/\bu μ v v'/\ib μ (a5.x1 bE ⟨T,n,fQ,true,H3,cP⟩) fr tmps ds cN/\kn true (c::Bz) cN/\fr.roundOf=none:=by
    intro ad af aV;subst af;subst aV;rw[ad];exact⟨_,_,rfl,bu.atom _ rfl,aM,⟨c,Bz,c.mode,rfl,rfl⟩,dj⟩
   cases PR:H3 with
   |run=>
    subst PR;simp only at he;injection he with he;injection he with aC aW
    refine hA ?_ aC.symm aW.symm;cases n4:c.mode<;>rw[n4] at hm<;>first|exact hm.elim|simp[recoverD,n4]
   |returning=>
    subst PR;simp only at he;injection he with he;injection he with aC aW
    refine hA ?_ aC.symm aW.symm;cases n4:c.mode<;>rw[n4] at hm<;>first|exact hm.elim|simp[recoverD,n4]
   |panicking ct=>
    subst PR;cases n4:c.mode with
    |run=>rw[n4] at hm;exact hm.elim
    |returning=>rw[n4] at hm;exact hm.elim
    |panicking z3=>
     rw[n4] at hm;have hm:iT μ ct z3:=hm;cases ct with
     |nil=>
      have:z3=[]:=kU hm.1.symm;subst this;simp only at he;injection he with he;injection he with aC aW
      exact hA (by simp[recoverD,n4]) aC.symm aW.symm
     |cons x Lf=>
      cases z3 with
      |nil=>have:=hm.1;simp at this
      |cons dP alQ=>
       obtain⟨bO,bA,cU⟩:=hm.2 0 x dP rfl rfl;obtain⟨BQ,aqz,aqx⟩:=x;obtain⟨Sp,So,aaT⟩:=dP;simp only at bO bA cU;subst bO;subst bA;cases So with
       |true=>
        simp only at he;injection he with he;injection he with aC aW
        exact hA (by simp[recoverD,n4]) aC.symm aW.symm
       |false=>
        cases aaT with
        |true=>
         simp only at he;injection he with he;injection he with aC aW
         exact hA (by simp[recoverD,n4]) aC.symm aW.symm
        |false=>
         simp only at he;injection he with he;injection he with aC aW
         subst aC;subst aW;refine⟨Sp,{c with mode:=.panicking ({v:=Sp,recovered:=true}::alQ)}::Bz,by simp[recoverD,n4],cU,⟨aM.t,aM.d,aM.kind,aM.vL,aM.Bx,fun _=>⟨_,_,rfl,?_⟩⟩,⟨c,Bz,_,rfl,rfl⟩,dj⟩;refine⟨by have:=hm.1;simpa using this,fun j e b3 q dG=>?_⟩;cases j with
         |zero=>simp at q dG;subst q;subst dG;exact⟨rfl,rfl,cU⟩
         |succ j=>exact hm.2 (j+1) e b3 (by simpa using q) (by simpa using dG)
theorem DQ(ih:p0 P B w0 call)(pC:yh P B w0 aQ)(h:cd P B w0 μ H w)(aM:ib μ S fr tmps ds cs)(aj:ops[i]?=some o){b1:dI}(he:one P call aQ ops.toList S H o=some b1):
 lj P B w0 μ H S fr cs (lone (bY fr tmps ds (.inRegion ops (i::rest)::k)) cs w) (.inRegion ops rest::k) b1:=by
 unfold one at he;cases aF:gp ops.toList S.T o with
 |none=>rw[aF] at he;cases he
 |some b=>
  rw[aF] at he;have hw:=Vd aM.t aF;cases b with
  |false=>
   have he:mr S o.dst undef H=some b1:=he;exact Bw aM h (Step.refl _ _) (bu.undef μ) (.one (aoB aj hw)) he
  |true=>
   have he:qE S H o.dst (cL P call aQ S H o)=some b1:=he;cases eA:cL P call aQ S H o with
   |none=>rw[eA] at he;cases he
   |some r=>
    rw[eA] at he;have he:Yv S H o.dst r=some b1:=he;have cc:=afC h aM.t eA;have ez:fr.roundOf=none\/∀c,o.op≠.defer c:=by
     by_cases aq:∃c,o.op=.defer c
     ·obtain⟨c,aq⟩:=aq;exact .inl (aM.vL (aem eA aq))
     ·exact .inr fun c q=>aq ⟨c,q⟩
    cases r with
    |val v H1=>
     have he:mr S o.dst v H1=some b1:=he;rcases cc with⟨v',bn,bw,dQ,ee,fB,iD⟩|⟨f,args,cq,dQ,ee,fB⟩|⟨l,L,args,cq,ki,dQ,ee,fB⟩
     ·exact Bw (aM.mono fB.ext) ee fB iD (.one (RQ aj hw ez dQ)) he
     ·rcases ih f args H _ _ fB μ w cq h ee with⟨v0,v',bn,bw,aC,aW,cw,ed,cH⟩|⟨aC,aW⟩
      ·injection aC with aC;subst aC
       exact Bw (aM.mono ed.ext) cw ed cH (.one (RQ aj hw ez (dQ.trans aW))) he
      ·obtain⟨b3,bn,U2,⟨bw,ck,ch,c6⟩,CT,_,C3⟩:=aW (bY fr tmps ds (.inRegion ops (i::rest)::k)::cs);cases b3 with
       |returned v'=>
        refine Bw (aM.mono ch.ext) ck ch c6 ?_ he;rw[<-Af aj];exact .head (ZQ aj hw ez (dQ.trans aC)) (Steps.trans CT (.one (step_leave_returned C3)))
       |panicked c=>exact c6.elim
       |outgrown=>exact c6.elim
     ·obtain⟨v0,f,pS,a,b,aC,aW,cw⟩:=pC l args H _ _ fB μ w L cq h ki ee;injection aC with aC;subst aC
      obtain⟨v',bn,bw,ck,ch,c6,gg⟩:=cw (bY fr tmps ds (.inRegion ops (i::rest)::k)) cs;refine Bw (aM.mono ch.ext) ck ch c6 ?_ he;rw[<-Af aj];exact .head (aox aj hw ez (dQ.trans aW)) gg
    |skip H1=>
     have he:mr S o.dst undef H1=some b1:=he;obtain⟨bn,dQ,ee,fB⟩:=cc;exact Bw aM ee fB (bu.undef μ) (.one (aoA aj hw ez dQ)) he
    |hR d=>
     have he:Bi S H o.dst d=some b1:=he;unfold Bi at he;cases PE:S.cP with
     |some l=>rw[PE] at he;cases he
     |none=>
     rw[PE] at he;have he:mr (S.Ef d) o.dst undef H=some b1:=he;obtain⟨k0,cap,ej,args,cq,rfl,dQ,ee,fB,iD⟩:=cc;have tL:fr.roundOf=none:=aM.vL PE;obtain⟨T,n,fQ,cb,bE,cP⟩:=S
     have OT:ib μ (a5.Ef {target:=.fn k0 cap,args:=args.toArray} ⟨T,n,fQ,cb,bE,cP⟩) fr tmps ({target:=.fn k0 ej,args:=cq.toArray}::ds) cs:=
      ⟨aM.t,.cons _ _ _ _ (.inl ⟨k0,cap,ej,rfl,rfl,ee,fB,by simpa using iD⟩) aM.d,aM.kind,aM.vL,aM.Bx,aM.bE⟩
     exact lj.congr (bl:=a5.Ef {target:=.fn k0 cap,args:=args.toArray} ⟨T,n,fQ,cb,bE,cP⟩) rfl rfl (Bw OT h (Step.refl _ _) (bu.undef μ) (.one (aoh aj hw tL dQ)) he)
    |jc chain H1=>
     have he:some (dI.jc chain S H1)=some b1:=he;injection he with he;subst he
     rcases cc with⟨v,v',rfl,rfl,dQ,ee⟩|⟨f,args,cq,dQ,ee,fB⟩
     ·exact⟨μ,w,tmps,ds,cs,_,_,h,Step.refl _ _,aM,kn.refl _ _ aM.vb,rfl,rfl,iT.single ee,.one (aor aj hw ez dQ)⟩
     ·rcases ih f args H _ _ fB μ w cq h ee with⟨v0,v',bn,bw,aC,_⟩|⟨aC,aW⟩
      ·cases aC
      ·obtain⟨b3,bn,U2,⟨bw,ck,ch,c6⟩,CT,_,C3⟩:=aW (bY fr tmps ds (.inRegion ops (i::rest)::k)::cs);cases b3 with
       |returned v'=>exact c6.elim
       |panicked c=>
        refine⟨bw,bn,tmps,ds,cs,c,.inRegion ops (i::rest)::k,ck,ch,aM.mono ch.ext,kn.refl _ _ aM.vb,rfl,rfl,c6,?_⟩;exact .head (ZQ aj hw ez (dQ.trans aC)) (Steps.trans CT (.one (step_leave_panicked C3)))
       |outgrown=>exact c6.elim
    |Bu=>
     have he:Hx S H o.dst (rE S)=some b1:=he;cases n':rE S with
     |none=>rw[n'] at he;cases he
     |some p=>
      obtain⟨v,bE⟩:=p;rw[n'] at he;have he:mr (S.x1 bE) o.dst v H=some b1:=he;obtain⟨v',cN,t1,t2,t3,t4,t5⟩:=ang (k:=k) (ops:=ops) (i:=i) (rest:=rest) aM n';unfold mr ot at he;cases ap:(S.x1 bE).put o.dst v with
      |none=>rw[ap] at he;cases he
      |some aP=>
       rw[ap] at he;have he:some (dI.ok aP H)=some b1:=he;injection he with he;subst he
       obtain⟨a,b,c,_,_⟩:=Rm t3 t2 ap;exact⟨μ,w,_,ds,cN,h,Step.refl _ _,a,t4,b,c,.one (aov aj hw t5 cc t1)⟩
end
end
end Go.Cre
namespace Go.Cre
noncomputable section
open Go.RowKit
section
variable {P:Program}{B:Nat->Prop}{w0 w:World}{μ:b5}{H H':aw}{S:a5}{fr:Frame}{tmps:Array Value}{ds:List Deferred}{cs:List Frame}{call:eZ}{aQ:hd}
variable {ops:Array Oper}{k:List Item}
theorem lj.steps{m m':Machine}{todo:List Item}{b1:dI}(ag:Steps P m m')(h:lj P B w0 μ H S fr cs m' todo b1):lj P B w0 μ H S fr cs m todo b1:=by
 cases b1 with
 |ok aP H'=>obtain⟨a,b,c,d,e,ck,ch,c6,gg,gh,hg,gW⟩:=h;exact⟨a,b,c,d,e,ck,ch,c6,gg,gh,hg,ag.trans gW⟩
 |jc chain aP H'=>obtain⟨a,b,c,d,e,x,y,ck,ch,c6,gg,gh,hg,gW,qk⟩:=h;exact⟨a,b,c,d,e,x,y,ck,ch,c6,gg,gh,hg,gW,ag.trans qk⟩
theorem lj.bind{bl:a5}{H1:aw}{m:Machine}{Z8 Z9:List Item}{b1:dI}(h:lj P B w0 μ H S fr cs m Z8 (.ok bl H1))
 (hk:∀fm bm zr uW gA,cd P B w0 fm H1 bm->Step μ fm H H1->ib fm bl fr zr uW gA->kn S.cb cs gA->bl.cb=S.cb->bl.cP=S.cP->lj P B w0 fm H1 bl fr gA (lone (bY fr zr uW Z8) gA bm) Z9 b1):lj P B w0 μ H S fr cs m Z9 b1:=by
 obtain⟨fm,bm,zr,uW,gA,ck,ch,c6,gg,gh,hg,gW⟩:=h;have c9:=(hk fm bm zr uW gA ck ch c6 gg gh hg).steps gW;cases b1 with
 |ok aP H'=>obtain⟨a,b,c,d,e,aX,aU,b0,dN,gl,iC,nH⟩:=c9;exact⟨a,b,c,d,e,aX,ch.trans aU,b0,gg.trans (gh▸dN),gl.trans gh,iC.trans hg,nH⟩
 |jc chain aP H'=>obtain⟨a,b,c,d,e,x,y,aX,aU,b0,dN,gl,iC,nH,oq⟩:=c9;exact⟨a,b,c,d,e,x,y,aX,ch.trans aU,b0,gg.trans (gh▸dN),gl.trans gh,iC.trans hg,nH,oq⟩
theorem afD(ih:p0 P B w0 call)(pC:yh P B w0 aQ)(l:List Oper):∀(i:Nat) (μ:b5) (w:World) (S:a5) (H:aw) (tmps:Array Value) (ds:List Deferred) (cs:List Frame) (b1:dI),
 ops.toList.drop i=l->cd P B w0 μ H w->ib μ S fr tmps ds cs->Cx P call aQ ops.toList l S H=some b1->
 lj P B w0 μ H S fr cs (lone (bY fr tmps ds (.inRegion ops (List.range' i l.length)::k)) cs w) k b1:=by
 induction l with
 |nil=>
  intro i μ w S H tmps ds cs b1 _ h aM he;have he:some (dI.ok S H)=some b1:=he;injection he with he;subst he
  exact⟨μ,w,tmps,ds,cs,h,Step.refl _ _,aM,kn.refl _ _ aM.vb,rfl,rfl,.one RO⟩
 |cons o l aZ=>
  intro i μ w S H tmps ds cs b1 aq h aM he;have he:UR (Cx P call aQ ops.toList l) (one P call aQ ops.toList S H o)=some b1:=he;have aj:ops[i]?=some o:=by
   have:(ops.toList.drop i)[0]?=some o:=by rw[aq];rfl
   simpa using this
  have At:ops.toList.drop (i+1)=l:=by
   have:(ops.toList.drop i).drop 1=l:=by rw[aq];rfl
   rw[Et] at this;exact this
  show lj P B w0 μ H S fr cs (lone (bY fr tmps ds (.inRegion ops (i::List.range' (i+1) l.length)::k)) cs w) k b1;cases oN:one P call aQ ops.toList S H o with
  |none=>rw[oN] at he;cases he
  |some dQ=>
   rw[oN] at he;have ad:=DQ (k:=k) (rest:=List.range' (i+1) l.length) ih pC h aM aj oN;cases dQ with
   |jc chain bl H1=>
    have he:some (dI.jc chain bl H1)=some b1:=he;injection he with he;subst he
    exact ad
   |ok bl H1=>
    have he:Cx P call aQ ops.toList l bl H1=some b1:=he;exact ad.bind fun fm bm zr uW gA ck _ c6 _ _ _=>aZ (i+1) fm bm bl H1 zr uW gA b1 At ck c6 he
end
end
end Go.Cre
namespace Go.Cre
noncomputable section
open Go.RowKit
section
variable {P:Program}{H:aw}{S aP:a5}{o:Oper}{call:eZ}{aQ:hd}
theorem HF{T eG:a4 Value}:∀{l:List Operand},(∀x∈l,ba eG H x=ba T H x)->fz eG H l=fz T H l:=by
 intro l;induction l with
 |nil=>intro _;rfl
 |cons x l aZ=>
  intro h;simp only[fz];rw[h x (by simp),aZ fun y aB=>h y (by simp[aB])]
theorem YF{T eG:a4 Value}:∀{l:List (Nat×Operand)},(∀x∈l.map (·.2),ba eG H x=ba T H x)->lI eG H l=lI T H l:=by
 intro l;induction l with
 |nil=>intro _;rfl
 |cons x l aZ=>
  intro h;obtain⟨i,x⟩:=x;simp only[lI];rw[h x (by simp),aZ fun y aB=>h y (by simp at aB ⊢;exact .inr aB)]
theorem afE{T eG:a4 Value}(ag:∀cs b,o.op≠.select cs b)(h:∀x∈o.op.operands,ba eG H x=ba T H x):fk P eG H o=fk P T H o:=by
 unfold fk;rw[HF fun x ab=>h x (by simpa using ab)];have:execOp (pL eG H) o=execOp (pL T H) o:=execOp_congr o ag fun x ab=>by unfold pL;rw[h x ab]
 rw[this]
theorem Yx{T eG:a4 Value}{x:Option Operand}(h:∀y∈x.toArray,ba eG H y=ba T H y):hH eG H x=hH T H x:=by
 cases x with
 |none=>rfl
 |some x=>simp only[hH];rw[h x (by simp)]
theorem Jy(av:aP.cP=S.cP)(h:∀x∈o.op.operands,ba aP.T H x=ba S.T H x):cL P call aQ aP H o=cL P call aQ S H o:=by
 have fa:(∀cs b,o.op≠.select cs b)->fk P aP.T H o=fk P S.T H o:=fun ag=>afE ag h;unfold cL e3;obtain⟨dst,op,type,pos,after,guard⟩:=o;simp only at h fa;cases op<;>simp only[Op.operands] at h<;>simp only
 case move x=>show g3 (ba aP.T H x) H=g3 (ba S.T H x) H;rw[h x (by simp)]
 case assign x=>show g3 (ba aP.T H x) H=g3 (ba S.T H x) H;rw[h x (by simp)]
 case pick c a b=>
  show y' P _ a b (ba aP.T H c)=y' P _ a b (ba S.T H c);rw[h c (by simp)];have aC:ba aP.T H a=ba S.T H a:=h a (by simp);have aW:ba aP.T H b=ba S.T H b:=h b (by simp);unfold y' eo.ba;simp only[aC,aW]
 case alloc e=>rfl
 case box e x=>show HB P _ e (ba aP.T H x)=HB P _ e (ba S.T H x);rw[h x (by simp)];rfl
 case build t ps=>show Bj P _ t (lI aP.T H ps.toList)=Bj P _ t (lI S.T H ps.toList);rw[YF fun x ab=>h x (by simpa using ab)];rfl
 case buildSlice t n ps=>show HC P _ t n (lI aP.T H ps.toList)=HC P _ t n (lI S.T H ps.toList);rw[YF fun x ab=>h x (by simpa using ab)];rfl
 case load t a=>show Bm P _ t (ba aP.T H a)=Bm P _ t (ba S.T H a);rw[h a (by simp)];rfl
 case store t a v=>show DT P _ t (ba aP.T H a) (ba aP.T H v)=DT P _ t (ba S.T H a) (ba S.T H v);rw[h a (by simp),h v (by simp)];rfl
 case nilCheck x=>show Bp P _ (ba aP.T H x)=Bp P _ (ba S.T H x);rw[h x (by simp)];rfl
 case binOp op t x y u=>
  have ap:=fa (fun _ _=>by simp);show l6 P _ op t (ba aP.T H x) (ba aP.T H y)=l6 P _ op t (ba S.T H x) (ba S.T H y);rw[h x (by simp),h y (by simp)];have Da:∀a b,t' P ⟨call,aQ,aP,H,⟨dst,.binOp op t x y u,type,pos,after,guard⟩⟩ op t a b=t' P ⟨call,aQ,S,H,⟨dst,.binOp op t x y u,type,pos,after,guard⟩⟩ op t a b:=fun a b=>by
   unfold t' eo.om;simp only[ap];unfold vG;rfl
  unfold l6 Rf eo.om;simp only[ap,Da]
 case unOp op t x=>
  have ap:=fa (fun _ _=>by simp);exact ap
 case convert s d x=>
  have ap:=fa (fun _ _=>by simp);show xD P _ s d (ba aP.T H x)=xD P _ s d (ba S.T H x);rw[h x (by simp)];unfold xD eo.om;simp only[ap]
 case makeInterface t x=>show Bo P _ t (ba aP.T H x) _=Bo P _ t (ba S.T H x) _;rw[h x (by simp)];rfl
 case makeFunc fn first captured=>
  show Bn P _ fn (fz aP.T H first.toList) (fz aP.T H captured.toList)=Bn P _ fn (fz S.T H first.toList) (fz S.T H captured.toList);rw[HF fun x ab=>h x (by simp at ab;simp[ab]),HF fun x ab=>h x (by simp at ab;simp[ab])];rfl
 case makeSlice t l c=>show HD P _ t (ba aP.T H l) (ba aP.T H c)=HD P _ t (ba S.T H l) (ba S.T H c);rw[h l (by simp),h c (by simp)];rfl
 case slice t x lo ar G'=>
  have ap:=fa (fun _ _=>by simp);cases G' with
  |some m=>rfl
  |none=>
   show mn P _ t (ba aP.T H x) (hH aP.T H lo) (hH aP.T H ar)=mn P _ t (ba S.T H x) (hH S.T H lo) (hH S.T H ar);rw[h x (by simp),Yx (x:=lo) fun y aB=>h y (by simp at aB;simp[aB]),Yx (x:=ar) fun y aB=>h y (by simp at aB;simp[aB])];unfold mn eo.om;simp only[ap]
 case fieldAddr t x f=>show Bl P _ t f (ba aP.T H x)=Bl P _ t f (ba S.T H x);rw[h x (by simp)];rfl
 case field t x f=>show DS P _ f (ba aP.T H x) _=DS P _ f (ba S.T H x) _;rw[h x (by simp)];rfl
 case indexAddr t x i=>show xE P _ t (ba aP.T H x) (ba aP.T H i)=xE P _ t (ba S.T H x) (ba S.T H i);rw[h x (by simp),h i (by simp)];rfl
 case index t x i=>show y9 P _ (ba aP.T H x) (ba aP.T H i) _=y9 P _ (ba S.T H x) (ba S.T H i) _;rw[h x (by simp),h i (by simp)];rfl
 case typeAssert x t a ok=>show Bq P _ a ok (ba aP.T H x)=Bq P _ a ok (ba S.T H x);rw[h x (by simp)];rfl
 case extract x bh=>show Bk P _ bh (ba aP.T H x)=Bk P _ bh (ba S.T H x);rw[h x (by simp)];rfl
 case call c=>
  have ap:=fa (fun _ _=>by simp);have nw:fz aP.T H c.args.toList=fz S.T H c.args.toList:=HF fun x ab=>h x (by simp[Call.operands,Em.1 ab]);show k9 P _ c=k9 P _ c;unfold k9;cases aJ:c.callee with
  |builtin b=>
   simp only
   unfold qh;simp only[nw,ap]
  |value f=>
   have aM:ba aP.T H f=ba S.T H f:=h f (by simp[Call.operands,aJ]);simp only
   unfold n0;simp only[nw,aJ,aM]
  |invoke r m=>
   have aM:ba aP.T H r=ba S.T H r:=h r (by simp[Call.operands,aJ]);simp only
   unfold n0;simp only[nw,aJ,aM]
 case defer c=>
  have nw:fz aP.T H c.args.toList=fz S.T H c.args.toList:=HF fun x ab=>h x (by simp[Call.operands,Em.1 ab]);show vH P _ c=vH P _ c;unfold vH Fw;simp only[av,nw];cases aJ:c.callee with
  |builtin b=>rfl
  |value f=>
   have aM:ba aP.T H f=ba S.T H f:=h f (by simp[Call.operands,aJ]);simp only[aM]
  |invoke r m=>
   have aM:ba aP.T H r=ba S.T H r:=h r (by simp[Call.operands,aJ]);simp only[aM]
 case panic x=>show HE P _ (ba aP.T H x)=HE P _ (ba S.T H x);rw[h x (by simp)];rfl
end
end
end Go.Cre
namespace Go.Cre
noncomputable section
open Go.RowKit
section
variable {P:Program}{H H':aw}{S aP:a5}{o:Oper}{call:eZ}{aQ:hd}{v:Value}
theorem pU{x:Option Value}(he:g3 x H=some (.val v H')):H'=H:=by
 cases x with
 |none=>cases he
 |some x=>have he:some (cT.val x H)=some (.val v H'):=he;injection he with he;injection he with _ he;exact he.symm
theorem afF{T:a4 Value}(he:fk P T H o=some (.val v H')):H'=H:=by
 unfold fk at he;cases ad:fz T H o.op.operands.toList with
 |none=>rw[ad] at he;cases he
 |some vs=>
  rw[ad] at he;cases af:vs.all plain with
  |false=>simp only[af] at he;cases he
  |true=>
   simp only[af,cv] at he;cases aV:fc P (execOp (pL T H) o) with
   |none=>rw[aV] at he;cases he
   |some r=>
    rw[aV] at he;cases r with
    |value u=>
     simp only at he;cases bq:plain u with
     |false=>rw[bq] at he;cases he
     |true=>rw[bq] at he;injection he with he;injection he with _ he;exact he.symm
    |skip=>injection he with he;cases he
    |_=>cases he
theorem Yz{a b:Option cT}(aI:a=some (.val v H')->H'=H)(ak:b=some (.val v H')->H'=H)(he:orElse a b=some (.val v H')):H'=H:=by
 cases a with
 |none=>exact ak he
 |some a=>exact aI he
theorem Lx{n:Int}{k:IntKind}(he:q5 n (pP H k)=some (.val v H')):H'=H:=by
 rcases n with(_|m)|(_|m)<;>(injection he with he;injection he with _ he;exact he.symm)
theorem ans{b:Bool}(he:xM H b=some (.val v H')):H'=H:=by
 cases b<;>(injection he with he;injection he with _ he;exact he.symm)
theorem acu{b:Bool}{u:Value}(h:(bif b then none else some (cT.val u H))=some (.val v H')):H'=H:=by
 cases b<;>simp at h;exact h.2.symm
theorem UQ(aJ:Ds o.op=false)(aI:yZ o.op=false)(he:cL P call aQ S H o=some (.val v H'))(ly:H'.aG=H.aG):H'=H:=by
 unfold cL e3 at he;obtain⟨dst,op,type,pos,after,guard⟩:=o;have fa:∀o',fk P S.T H o'=some (.val v H')->H'=H:=fun o' q=>afF q;cases op<;>simp only[Ds,yZ] at aJ aI<;>simp only at he
 case move x=>exact pU (x:=ba S.T H x) he
 case assign x=>exact pU (x:=ba S.T H x) he
 case pick c a b=>
  have he:y' P _ a b (ba S.T H c)=_:=he;unfold y' at he;split at he
  ·exact pU he
  ·exact pU he
  ·cases he
 case alloc=>cases aI
 case box=>cases aI
 case build t ps=>
  have he:Bj P _ t (lI S.T H ps.toList)=_:=he;unfold Bj at he;split at he
  ·exact pU he
  ·cases he
 case buildSlice=>cases aI
 case load t a=>
  have he:Bm P _ t (ba S.T H a)=_:=he;unfold Bm at he;split at he
  ·exact pU he
  ·cases he
 case nilCheck x=>
  have he:Bp P _ (ba S.T H x)=_:=he;unfold Bp at he;split at he<;>first|(injection he with he;injection he with _ he;exact he.symm)|cases he
 case binOp op t x y u=>
  have he:l6 P _ op t (ba S.T H x) (ba S.T H y)=_:=he;have Da:∀X:eo,X.H=H->X.S=S->∀a b,t' P X op t a b=some (.val v H')->H'=H:=fun X fG ax a b q=>by
   unfold t' at q;refine Yz (fun q=>?_) (fun q=>?_) q
   ·unfold eo.om at q;rw[fG,ax] at q;exact fa _ q
   ·unfold vG at q;split at q
    ·split at q
     ·injection q with q;injection q with _ q;rw[<-q,fG]
     ·cases q
    ·split at q
     ·injection q with q;injection q with _ q;rw[<-q,fG]
     ·cases q
    ·cases q
  unfold l6 at he;split at he
  ·unfold Rf at he;rename_i k a l b _ _;cases hk:mi k l with
   |false=>rw[hk,dB] at he;exact Da _ (by rfl) (by rfl) _ _ he
   |true=>
    rw[hk,cv] at he;unfold jG at he;split at he<;>first|exact Lx he|exact ans he|exact fa _ he
  ·exact Da _ (by rfl) (by rfl) _ _ he
  ·cases he
 case unOp op t x=>exact fa _ he
 case convert s d x=>
  have he:xD P _ s d (ba S.T H x)=_:=he;unfold xD at he;split at he
  ·cases he
  ·rename_i zj _;cases az:wD P H s d zj with
   |none=>rw[az] at he;exact fa _ he
   |some p=>
    obtain⟨u,H1⟩:=p;rw[az] at he;have he:some (cT.val u H1)=some (.val v H'):=he;injection he with he;injection he with _ he;subst he
    have:=afK az;omega
  ·exact pU he
  ·exact pU he
  ·split at he
   ·exact Lx he
   ·exact fa _ he
  ·exact fa _ he
 case makeInterface t x=>
  have he:Bo P _ t (ba S.T H x) (P.underlying t)=_:=he;unfold Bo at he;split at he<;>first|(injection he with he;injection he with _ he;exact he.symm)|cases he
 case makeFunc fn first captured=>
  have he:Bn P _ fn (fz S.T H first.toList) (fz S.T H captured.toList)=_:=he;unfold Bn at he;split at he
  ·split at he
   ·cases he
   ·injection he with he;injection he with _ he;exact he.symm
  ·cases he
 case makeMap=>cases aI
 case makeSlice=>cases aI
 case slice t x lo ar G'=>
  cases G' with
  |some m=>cases he
  |none=>
   have he:mn P _ t (ba S.T H x) (hH S.T H lo) (hH S.T H ar)=_:=he;unfold mn at he;split at he
   ·exact Yz (fun q=>pU q) (fun q=>fa _ q) he
   ·cases he
 case fieldAddr t x f=>
  have he:Bl P _ t f (ba S.T H x)=_:=he;unfold Bl at he;split at he
  ·exact pU he
  ·cases he
 case field t x f=>
  have he:DS P _ f (ba S.T H x) (P.underlying t)=_:=he;unfold DS at he;split at he
  ·split at he
   ·exact pU he
   ·cases he
  ·cases he
 case indexAddr t x i=>
  have he:xE P _ t (ba S.T H x) (ba S.T H i)=_:=he;unfold xE at he;split at he
  ·exact pU he
  ·cases he
 case index t x i=>
  have he:y9 P _ (ba S.T H x) (ba S.T H i) (P.underlying t)=_:=he;unfold y9 at he;split at he
  ·split at he
   ·exact pU he
   ·cases he
  ·split at he
   ·split at he
    ·exact Lx he
    ·cases he
   ·cases he
  ·cases he
 case typeAssert x t a ok=>
  have he:Bq P _ a ok (ba S.T H x)=_:=he;unfold Bq at he;split at he
  ·exact pU he
  ·cases he
 case extract x bh=>
  have he:Bk P _ bh (ba S.T H x)=_:=he;unfold Bk at he;split at he
  ·exact pU he
  ·cases he
 case call c=>
  have he:k9 P _ c=_:=he;obtain⟨callee,args,argTypes⟩:=c;unfold k9 at he;cases callee with
  |value f=>cases aJ
  |invoke r m=>cases aJ
  |builtin b=>
   simp only at he aJ;unfold qh at he;split at he
   ·cases he
   ·cases b<;>simp only at aJ<;>first|cases aJ|skip
    all_goals simp only at he
    all_goals first
     |exact fa _ he
     |skip
    all_goals (
     split at he
     all_goals first
      |contradiction
      |exact fa _ he
      |(cases he;done)
      |(cases he;rfl)
      |skip
     all_goals (
      split at he
      all_goals first
       |contradiction
       |exact fa _ he
       |(cases he;done)
       |(cases he;rfl)
       |exact acu he
       |(split at he<;>first|(cases he;done)|exact Lx he)
       |(split at he<;>first|(cases he;done)|(cases he;rfl))))
 all_goals first|(cases aJ;done)|(cases he;done)
end
end
end Go.Cre
namespace Go.Cre
noncomputable section
open Go.RowKit
def a4.gE {α:Type}:a4 α->(Nat->Bool)->a4 α
 |.leaf,_=>.leaf
 |.node v l r,p=>.node (if p 0 then v else none) (l.gE fun k=>p (2*k+1)) (r.gE fun k=>p (2*k+2))
theorem a4.N0{α:Type}(t:a4 α):∀(p:Nat->Bool) (n:Nat),(t.gE p).get n=if p n then t.get n else none:=by
 induction t with
 |leaf=>intro p n;simp[a4.gE,a4.Va]
 |node v l r xh xi=>
  intro p n;cases n with
  |zero=>simp[a4.gE,a4.FF]
  |succ m=>
   simp only[a4.gE,a4.q6];by_cases h:m % 2=0
   ·rw[bj h,bj h,xh];have:2*(m / 2)+1=m+1:=by omega
    rw[this]
   ·rw[bd h,bd h,xi];have:2*(m / 2)+2=m+1:=by omega
    rw[this]
theorem a4.YR{α:Type}{a:α}{t:a4 α}:∀{lJ:a4 α} {n:Nat} (p:Nat->Bool),a4.put a t n=some lJ->∃aoR,a4.put a (t.gE p) n=some aoR:=by
 induction t with
 |leaf=>
  intro lJ n p h;exact⟨lJ,h⟩
 |node v l r xh xi=>
  intro lJ n p h;cases n with
  |zero=>exact⟨_,rfl⟩
  |succ m=>
   simp only[a4.gE];rw[a4.Ls] at h ⊢;by_cases hm:m % 2=0
   ·rw[bj hm] at h ⊢;cases aD:a4.put a l (m / 2) with
    |none=>rw[aD] at h;cases h
    |some l'=>obtain⟨KF,e⟩:=xh (fun k=>p (2*k+1)) aD;rw[e];exact⟨_,rfl⟩
   ·rw[bd hm] at h ⊢;cases av:a4.put a r (m / 2) with
    |none=>rw[av] at h;cases h
    |some cW=>obtain⟨atF,e⟩:=xi (fun k=>p (2*k+2)) av;rw[e];exact⟨_,rfl⟩
def a5.only (S:a5)(p:Nat->Bool):a5:=⟨S.T.gE p,S.n,S.ds,S.cb,S.bE,S.cP⟩
theorem a5.put_eq{S aP:a5}{dst:Option Tmp}{v:Value}(he:S.put dst v=some aP):
 aP.n=S.n/\aP.ds=S.ds/\aP.cb=S.cb/\aP.bE=S.bE/\aP.cP=S.cP/\∀t,aP.T.get t=if dst=some t then some v else S.T.get t:=by
 cases dst with
 |none=>
  have he:some S=some aP:=he;injection he with he;subst he
  exact⟨rfl,rfl,rfl,rfl,rfl,fun t=>by simp⟩
 |some d=>
  obtain⟨T,n,fQ,cb,bE,cP⟩:=S;have he:Bool.rec (motive:=fun _=>Option a5) none (a5.qG n fQ cb bE cP (a4.put v T d)) (Nat.ble (Nat.succ d) n)=some aP:=he;cases ak:Nat.ble (Nat.succ d) n with
  |false=>rw[ak] at he;cases he
  |true=>
   rw[ak] at he;have he:a5.qG n fQ cb bE cP (a4.put v T d)=some aP:=he;cases ap:a4.put v T d with
   |none=>rw[ap] at he;cases he
   |some eG=>
    rw[ap] at he;have he:some (a5.mk eG n fQ cb bE cP)=some aP:=he;injection he with he;subst he
    refine⟨rfl,rfl,rfl,rfl,rfl,fun t=>?_⟩;show eG.get t=_;rw[a4.get_put ap];by_cases h:t=d
    ·subst h;simp
    ·rw[bd h,bd (fun q=>h (by injection q with q;exact q.symm))]
theorem a5.am2{S aP:a5}{dst:Option Tmp}{v:Value}(p:Nat->Bool)(he:S.put dst v=some aP):∃pc,(S.only p).put dst v=some pc:=by
 cases dst with
 |none=>exact⟨_,rfl⟩
 |some d=>
  obtain⟨T,n,fQ,cb,bE,cP⟩:=S;have he:Bool.rec (motive:=fun _=>Option a5) none (a5.qG n fQ cb bE cP (a4.put v T d)) (Nat.ble (Nat.succ d) n)=some aP:=he;show ∃pc,Bool.rec (motive:=fun _=>Option a5) none (a5.qG n fQ cb bE cP (a4.put v (T.gE p) d)) (Nat.ble (Nat.succ d) n)=some pc;cases ak:Nat.ble (Nat.succ d) n with
  |false=>rw[ak] at he;cases he
  |true=>
   rw[ak] at he;have he:a5.qG n fQ cb bE cP (a4.put v T d)=some aP:=he;cases ap:a4.put v T d with
   |none=>rw[ap] at he;cases he
   |some eG=>
    obtain⟨aq4,e⟩:=a4.YR p ap;rw[e];exact⟨_,rfl⟩
section
variable {P:Program}{H:aw}{T eG:a4 Value}{ops:List Oper}{o:Oper}
theorem XA{t:Tmp}(h:Operand.tmp t∈o.op.operands):t∈looks ops o:=by
 unfold looks;exact nN _ (List.mem_filterMap.2 ⟨.tmp t,by simpa using h,rfl⟩)
theorem Lh(h:∀t∈looks ops o,eG.get t=T.get t):∀x∈o.op.operands,ba eG H x=ba T H x:=fun x ab=>by
 cases x with
 |tmp t=>exact h t (XA ab)
 |const c=>rfl
 |global g=>rfl
 |func f=>rfl
theorem ami(h:∀t∈looks ops o,eG.get t=T.get t):∀x∈o.op.operands,qF eG x=qF T x:=fun x ab=>by
 cases x with
 |tmp t=>exact h t (XA ab)
 |const c=>rfl
 |global g=>rfl
 |func f=>rfl
theorem tw(h:∀t∈looks ops o,eG.get t=T.get t):gp ops eG o=gp ops T o:=by
 unfold gp;cases aF:o.guard with
 |none=>rfl
 |some q=>
  obtain⟨j,want⟩:=q;show u3 ops eG (j,want)=u3 ops T (j,want);unfold u3;simp only
  cases aE:nth ops j with
  |none=>rfl
  |some p=>
   simp only
   cases aq:p.dst with
   |none=>rfl
   |some d=>
    simp only
    rw[h d (by unfold looks;rw[aF];simp only[aE,aq];exact eF _ (by simp))]
theorem amz:∀{l:List (Nat×Operand)},(∀x∈l.map (·.2),qF eG x=qF T x)->sN eG l=sN T l:=by
 intro l;induction l with
 |nil=>intro _;rfl
 |cons x l aZ=>
  intro h;obtain⟨i,x⟩:=x;simp only[sN];rw[h x (by simp),aZ fun y aB=>h y (by simp at aB ⊢;exact .inr aB)]
theorem MI(h:∀t∈looks ops o,eG.get t=T.get t):nm P eG o.op=nm P T o.op:=by
 have h:=ami h;cases aj:o.op<;>rw[aj] at h<;>simp only[Op.operands] at h<;>simp only[nm]
 case box e x=>rw[h x (by simp)]
 case buildSlice t n ps=>rw[amz fun x ab=>h x (by simpa using ab)]
 case makeSlice t l c=>rw[h l (by simp),h c (by simp)]
 case makeMap t r=>cases r<;>rfl
end
theorem aca{f:Value->Value->Bool}(aM:∀x y,f x y=true->x=y):∀{l m:List Value},jB f l m=true->l=m:=by
 intro l;induction l with
 |nil=>intro m h;cases m with
  |nil=>rfl
  |cons=>cases h
 |cons x l aZ=>intro m h;cases m with
  |nil=>cases h
  |cons y m=>
   simp only[jB,gI] at h;rw[aM x y h.1,aZ h.2]
theorem TE{a b:Option Addr}(h:addrEq a b=true):a=b:=by
 unfold addrEq at h;split at h
 ·rfl
 ·simp only[gI] at h;rw[eC h.1,eC h.2]
 ·rfl
 ·cases h
theorem apZ:∀{n:Nat} {a b:Value},eD n a b=true->a=b:=by
 intro n;induction n with
 |zero=>intro a b h;cases h
 |succ n aZ=>
  intro a b h;have arr:∀{x y:Array Value},jB (eD n) x.toList y.toList=true->x=y:=fun q=>rS (aca (fun _ _ z=>aZ z) q);unfold eD at h;split at h
  ·rename_i a b;cases a<;>cases b<;>first|rfl|cases h
  ·simp only[gI] at h;rw[W7 h.1];have:=h.2;rw[Dp] at this;rw[eq_of_beq this]
  ·rename_i a b;have:=Hr h;obtain⟨⟨x⟩⟩:=a;obtain⟨⟨y⟩⟩:=b;simp at this;rw[this]
  ·rw[TE h]
  ·simp only[gI] at h;rw[TE h.1.1,eC h.1.2,eC h.2]
  ·rename_i a b;cases a<;>cases b<;>simp only[X7] at h<;>first|rfl|cases h|(rw[eC h])
  ·rfl
  ·rfl
  ·simp only[gI] at h;rw[eC h.1,aZ h.2]
  ·rw[arr h]
  ·rw[arr h]
  ·simp only[gI] at h;rename_i f a b g c d;have:f=g:=by
    have:=h.1.1;unfold NT at this;split at this
    ·rw[eC this]
    ·cases this
   rw[this,arr h.1.2,arr h.2]
  ·cases h
section
variable {P:Program}{B:Nat->Prop}{w0 w:World}{μ:b5}{H H':aw}
theorem cd.amD(h:cd P B w0 μ H w){a:Nat}{b:fs}(aE:H.new b=some (a,H'))(aj:kw (some b)=false):cd P B w0 μ H' w:=by
 obtain⟨rfl,aC,aW,cw,ed,cH⟩:=aw.qC aE;have eb:∀x L,μ x=some L->H'.mem.get x=H.mem.get x:=fun x L ab=>by
  have:=h.lt x L ab;rw[cH,bd (by omega)]
 refine⟨h.below,h.nT,?_,?_,?_,?_,?_,?_,?_,?_,?_,?_⟩
 ·intro x L ab;obtain⟨b',o',ad,af,aV⟩:=h.gf x L ab;exact⟨b',o',by rw[eb x L ab];exact ad,af,aV⟩
 ·intro x y hQ hX eM ab aB oa;rcases h.sep x y hQ hX eM ab aB oa with d|d|⟨f,l,⟨c,e,z,s,q⟩,⟨c',b3,hq,dC,dG⟩,aD,c1,fq⟩
  ·exact .inl (by rw[eb x hQ ab];exact d)
  ·exact .inr (.inl (by rw[eb y hX aB];exact d))
  ·exact .inr (.inr ⟨f,l,⟨c,e,z,s,by rw[eb x hQ ab];exact q⟩,⟨c',b3,hq,dC,by rw[eb y hX aB];exact dG⟩,by rw[aW];exact aD,c1,fq⟩)
 ·intro x L ab;have:=h.lt x L ab;omega
 ·intro x L ab aF;exact h.own x L ab (by omega)
 ·intro x L ab aF ez;exact h.new x L ab (by omega) (by rw[eb x L ab] at ez;exact ez)
 ·intro g c e o f z s aF hm;have Ay:g≠H.aG:=by have:=h.kI;omega
  rw[cH,bd Ay] at hm;exact h.tv g c e o f z s (by omega) hm
 ·have:=h.kI;omega
 ·intro x c e f z s hm;rw[cH] at hm;split at hm
  ·injection hm with hm;rw[hm] at aj;simp[kw] at aj
  ·rw[cw];exact h.q4 x c e f z s hm
 ·intro f l x aD ab;rw[aW] at aD;obtain⟨a,d⟩:=h.lq f l x aD ab;refine⟨by omega,?_⟩;rw[cH,bd (by omega)];exact d
 ·intro f l aD;rw[aW] at aD;refine(h.u0 f l aD).imp_of_mem ?_;intro x y ab aB eM c e f1 z s c' b3 f' hq dC q dG;have fT:=(h.lq f l x aD ab).1;have yX:=(h.lq f l y aD aB).1;rw[cH,bd (by omega)] at q dG;exact eM c e _ z s c' b3 f' hq dC q dG
theorem cd.fill(h:cd P B w0 μ H w){a:Nat}{b:fs}{o:Obj}{L:Loc}(hm:μ a=none)(cA:a<H.aG)(aF:H.bU<=a)(gr:H.mem.get a=some b)(av:L.r=w.heap.size)(ak:j5 P μ L b o):
 cd P B w0 (μ.put a L) H (w.alloc o)/\Ext μ (μ.put a L):=by
 have kK:Ext μ (μ.put a L):=fun id b8 ab=>by
  by_cases e:id=a
  ·subst e;rw[hm] at ab;cases ab
  ·rw[b5.ud _ _ e];exact ab
 have eb:∀x b8,(μ.put a L) x=some b8->x≠a->μ x=some b8:=fun x b8 q b=>by rwa [b5.ud _ _ b] at q
 have Pe:∀x b8,μ x=some b8->b8.r<w.heap.size:=fun x b8 ab=>by
  obtain⟨b',o',_,aj,_⟩:=h.gf x b8 ab;rcases iK b8.r w.heap.size with c9|c9
  ·exact c9
  ·rw[s5 c9] at aj;cases aj
 refine⟨⟨h.below.alloc h.nT o,?_,?_,?_,?_,?_,?_,?_,h.kI,h.q4,h.lq,h.u0⟩,kK⟩
 ·intro k hk;have:=h.nT k hk;show k<(w.heap.push o).size;rw[SB];omega
 ·intro x b8 ab;by_cases dk:x=a
  ·subst dk;rw[b5.kh] at ab;injection ab with ab;subst ab
   exact⟨b,o,gr,by rw[CW,av];simp,ak.mono kK⟩
  ·have fT:=eb x b8 ab dk;obtain⟨b',o',ad,af,aV⟩:=h.gf x b8 fT;exact⟨b',o',ad,by rw[CW,bd (by have:=Pe x b8 fT;omega)];exact af,aV.mono kK⟩
 ·intro x y hQ hX eM ab aB oa;by_cases dk:x=a
  ·subst dk;rw[b5.kh] at ab;injection ab with ab;subst ab
   have:=Pe y hX (eb y hX aB (Ne.symm eM));omega
  ·by_cases k4:y=a
   ·subst k4;rw[b5.kh] at aB;injection aB with aB;subst aB
    have:=Pe x hQ (eb x hQ ab dk);omega
   ·exact h.sep x y hQ hX eM (eb x hQ ab dk) (eb y hX aB k4) oa
 ·intro x b8 ab;by_cases dk:x=a
  ·omega
  ·exact h.lt x b8 (eb x b8 ab dk)
 ·intro x b8 ab F5;have dk:x≠a:=by omega
  exact h.own x b8 (eb x b8 ab dk) F5
 ·intro x b8 ab F5 ez;by_cases dk:x=a
  ·subst dk;rw[b5.kh] at ab;injection ab with ab;subst ab
   rw[av];exact fun q=>zQ _ (h.nT _ q)
  ·exact h.new x b8 (eb x b8 ab dk) F5 ez
 ·intro g c e o f z s F5 Pf;obtain⟨b8,bB⟩:=h.tv g c e o f z s F5 Pf;exact⟨b8,kK _ _ bB⟩
theorem Rz{cells cells':List Value}{elem:TypeId}(aJ:ca μ cells cells')(r:Nat):j5 P μ ⟨r,cells.length,P.cellsOf elem⟩ (.row cells elem false 0 0 false) (.cells cells'.toArray elem):=
 ⟨rfl,by simp[aJ.1],rfl,bX _,fun _=>rfl,fun i v v' a b=>aJ.2 i v v' a (by simpa using b),fun off _ ad af=>by simp at af,fun _=>.inl rfl⟩
def jg.ok:jg->Bool
 |.BB _ c=>decide (c<cQ)
 |_=>true
theorem jg.rel{eJ:jg}(h:eJ.ok=true){a:Nat}{L:Loc}(hm:μ a=some L):bu μ (eJ.at a) (eJ.at L.r):=by
 cases eJ with
 |ptr=>exact .ptr a 0 L hm
 |BB l c=>exact .nJ a 0 l c L hm (Hr h)
 |map=>exact .map a L hm
def L2(P:Program)(μ:b5)(w:World)(s:Sem Value)(b:fs)(eJ:jg):Prop:=
 ∃jM N sz,s.run P w=.ok (eJ.at w.heap.size) (w.alloc jM)/\j5 P μ ⟨w.heap.size,N,sz⟩ b jM/\kw (some b)=false/\eJ.ok=true
theorem TL{elem:TypeId}{v v':Value}{b:fs}{eJ:jg}(az:bu μ v v')(he:zW elem v=some (b,eJ))(w:World):L2 P μ w (Instr.box elem v') b eJ:=by
 unfold zW at he;cases aj:v.cells.toList.all ff with
 |false=>rw[aj] at he;cases he
 |true=>
  rw[aj,cv] at he;simp only[cD,dK] at he;obtain⟨rfl,rfl⟩:=he;refine⟨_,_,_,?_,Rz az.cells _,rfl,rfl⟩;simp[Instr.box,newVar,newRow,newObj,Sem.run,jg.at]
theorem acg{t:TypeId}{l l' c c':Value}{b:fs}{eJ:jg}(aD:bu μ l l')(aJ:bu μ c c')(he:EQ P t l c=some (b,eJ))(w:World):L2 P μ w (Instr.makeSlice t l' c') b eJ:=by
 unfold EQ at he;cases l with
 |int a7 l=>
  cases c with
  |int a0 c=>
   obtain rfl:=aD.qA;obtain rfl:=aJ.qA;cases hu:P.underlying t with
   |none=>rw[hu] at he;simp at he
   |some d=>
    rw[hu] at he;cases d with
    |slice elem=>
     simp only at he;cases aL:gR P elem with
     |none=>rw[aL] at he;simp at he
     |some z=>
      rw[aL] at he;cases h3:uQ P elem with
      |none=>rw[h3] at he;simp at he
      |some jm=>
       rw[h3] at he;cases ag:eV P elem with
       |none=>rw[ag] at he;simp at he
       |some sz=>
        rw[ag] at he;simp only at he;cases tC:qz c 1000000 with
        |none=>rw[tC] at he;simp at he
        |some lm=>
         rw[tC] at he;cases dL:qz l 1000000 with
         |none=>rw[dL] at he;simp at he
         |some fU=>
          rw[dL] at he;simp only at he;cases wT:(Nat.ble fU lm&&Nat.ble jm 1000000&&Nat.beq z.cells.toList.length sz&&z.cells.toList.all ff&&plain z) with
          |false=>rw[wT] at he;simp at he
          |true=>
           rw[wT,cv] at he;simp only[gI] at wT;obtain⟨⟨⟨⟨aX,aU⟩,b0⟩,dN⟩,gl⟩:=wT;have aX:=hZ aX;have aU:=hZ aU;have b0:=eC b0;obtain⟨rfl,gY⟩:=Dr tC;obtain⟨rfl,n6⟩:=Dr dL;simp only[cD,dK] at he;obtain⟨rfl,rfl⟩:=he;have sF:ca μ z.cells.toList z.cells.toList:=(pN gl).cells;have wS:ca μ (fM z.cells.toList lm) (fM z.cells.toList lm):=ca.D2 fun v az=>by
               exact Im (p:=fun v=>bu μ v v) az (fun u hu=>by
                obtain⟨i,ar⟩:=zJ.1 hu;exact sF.2 i u u ar ar)
           refine⟨_,_,_,?_,Rz wS _,rfl,ie (by have:(1000000:Nat)<cQ:=by decide
                                              omega)⟩
           obtain⟨i,ar,rfl⟩:=MX h3
           have oh:i.zero=some z:=by simpa[gR,ar] using aL
           have sA:i.size=sz:=by simpa[eV,ar] using ag
           have hmul:i.bytes*lm<=1000000*1000000:=r1 aU gY;have gD:=Ip z.cells.toList lm;have gZ:=run_make (P:=P) w t elem i z hu ar oh a7 a0 (fU:Int) (lm:Int) (by omega) (by omega) (by
               have:(i.bytes:Int)*(lm:Int)=((i.bytes*lm:Nat):Int):=by simp
               rw[this];omega) (by omega)
           rw[gZ];simp only[jy,jg.at];congr 3
           rw[<-gD];simp[madeCells,sA,<-b0]
    |_=>simp at he
  |_=>simp at he
 |_=>simp at he
theorem ace{t:TypeId}{len:Nat}{parts mL:List (Nat×Value)}{b:fs}{eJ:jg}(ap:wa μ parts mL)(he:EP P t len parts=some (b,eJ))(w:World):L2 P μ w (Instr.buildSlice t len mL.toArray) b eJ:=by
 unfold EP at he;cases hu:P.underlying t with
 |none=>rw[hu] at he;simp at he
 |some d=>
  rw[hu] at he;cases d with
  |slice elem=>
   simp only at he;cases ag:eV P elem with
   |none=>rw[ag] at he;simp at he
   |some sz=>
    rw[ag] at he;cases aL:gR P elem with
    |none=>rw[aL] at he;simp at he
    |some z=>
     rw[aL] at he;simp only at he;cases aJ:(Nat.ble len 100000&&Nat.ble (len*sz) 100000&&plain z&&Nat.beq z.cells.toList.length sz) with
     |false=>rw[aJ] at he;simp at he
     |true=>
      rw[aJ,cv] at he;simp only[gI] at aJ;obtain⟨⟨⟨iq,aX⟩,aU⟩,b0⟩:=aJ;have iq:=hZ iq;have aX:=hZ aX;have b0:=eC b0;cases aM:nr (fun i=>some (i*sz,sz)) (fM z.cells.toList len) parts with
      |none=>rw[aM] at he;simp at he
      |some cells=>
       rw[aM] at he;simp only at he;cases aj:cells.all ff with
       |false=>rw[aj] at he;simp at he
       |true=>
        rw[aj,cv] at he;simp only[cD,dK] at he;obtain⟨rfl,rfl⟩:=he;have sF:ca μ z.cells.toList z.cells.toList:=(pN aU).cells;have wS:ca μ (fM z.cells.toList len) (fM z.cells.toList len):=ca.D2 fun v az=>
         Im (p:=fun v=>bu μ v v) az (fun u hu=>by
           obtain⟨i,ar⟩:=zJ.1 hu;exact sF.2 i u u ar ar)
        obtain⟨cW,a,b⟩:=JE ap wS aM
        refine⟨_,_,_,?_,Rz b _,rfl,ie (by have:(100000:Nat)<cQ:=by decide
                                          omega)⟩
        have gD:=Ip z.cells.toList len;have ajD:z.cells.size=sz:=by simpa using b0
        have OJ:¬(16777216<len*sz):=by omega
        rw[b0] at gD;simp only[aa3] at gD;by_cases aO:len*sz=0
        ·have AD:fM z.cells.toList len=[]:=zH.1 (by rw[Su,b0];exact aO)
         rw[AD] at a;have bV:Instr.fill (fun i=>some (i*sz,sz)) (Array.map (fun _=>(default:Value)) (Array.range 0)) mL=some cW.toArray:=by
          have jC:Array.map (fun _:Nat=>(default:Value)) (Array.range 0)=#[]:=by simp
          rw[jC];exact a
         simp[Instr.buildSlice,eY hu,kP ag,aO,bV,newRow,newObj,Sem.run,jg.at]
        ·have bV:Instr.fill (fun i=>some (i*sz,sz)) ((Array.range (len*sz)).map fun i=>z.cells[i % z.cells.size]!) mL=some cW.toArray:=by rw[gD];exact a
         simp[Instr.buildSlice,eY hu,kP ag,OJ,aO,vT aL,bV,newRow,newObj,Sem.run,jg.at]
  |_=>simp at he
theorem Lg{T:a4 Value}{n:Nat}{tmps:Array Value}(aS:kq μ T n tmps){x:Operand}{v:Value}(he:qF T x=some v):bu μ v (df tmps x):=by
 cases x with
 |tmp t=>exact aS.2 t v he
 |const c=>
  have he:(bif plain c then some c else none)=some v:=he;cases ap:plain c with
  |false=>rw[ap] at he;simp at he
  |true=>rw[ap] at he;simp at he;subst he;exact pN ap
 |global g=>cases he
 |func f=>
  have he:some (Value.func (.func f) #[] #[])=some v:=he;injection he with he;subst he
  exact .func _ _ _ _ _ rfl rfl rfl (fun i v v' q=>by simp at q) (fun i v v' q=>by simp at q)
theorem amB{T:a4 Value}{n:Nat}{tmps:Array Value}(aS:kq μ T n tmps):∀{l:List (Nat×Operand)} {ps:List (Nat×Value)},sN T l=some ps->wa μ ps (l.map fun(i,x)=>(i,df tmps x)):=by
 intro l;induction l with
 |nil=>intro ps h;simp[sN] at h;subst h;exact⟨rfl,fun i p h8 q=>by simp at q⟩
 |cons x l aZ=>
  intro ps h;obtain⟨i,x⟩:=x;simp only[sN] at h;cases ad:qF T x with
  |none=>rw[ad] at h;cases h
  |some v=>
   rw[ad] at h;cases af:sN T l with
   |none=>rw[af] at h;cases h
   |some r=>
    rw[af] at h;injection h with h;subst h
    have:=aZ af;refine⟨by simp[this.1],fun j p h8 q dG=>?_⟩;cases j with
    |zero=>simp at q dG;subst q;subst dG;exact⟨rfl,Lg aS ad⟩
    |succ j=>exact this.2 j p h8 (by simpa using q) (by simpa using dG)
theorem Xw{t:TypeId}{r:Operand}{b:fs}{eJ:jg}(he:GV P t r=some (b,eJ)):b=.dead/\eJ=.map/\r=.const (.int .i64 (.ofNat 0))/\∃key el,P.underlying t=some (.map key el):=by
 unfold GV at he;split at he
 ·cases hu:P.underlying t with
  |none=>rw[hu] at he;cases he
  |some d=>
   rw[hu] at he;cases d with
   |map a c=>
    simp only[cD,dK] at he;exact⟨he.1.symm,he.2.symm,rfl,a,c,rfl⟩
   |_=>cases he
 ·cases he
theorem ach{T:a4 Value}{n:Nat}{tmps:Array Value}{o:Oper}{b:fs}{eJ:jg}(aS:kq μ T n tmps)(he:nm P T o.op=some (b,eJ))(w:World):
 ∃jM N sz,(execOp (df tmps) o).run P w=.ok (.value (eJ.at w.heap.size)) (w.alloc jM)/\j5 P μ ⟨w.heap.size,N,sz⟩ b jM/\kw (some b)=false/\eJ.ok=true:=by
 cases aj:o.op<;>rw[aj] at he<;>simp only[nm] at he
 case alloc elem=>
  cases aL:gR P elem with
  |none=>rw[aL] at he;cases he
  |some z=>
   rw[aL] at he;cases ap:plain z with
   |false=>simp only[ap] at he;cases he
   |true=>
    simp only[ap,cv] at he;obtain⟨jM,N,sz,bO,bA,cU,dn⟩:=TL (P:=P) (pN (μ:=μ) ap) he w;refine⟨jM,N,sz,?_,bA,cU,dn⟩;have:(Instr.alloc elem true (.tuple #[])).run P w=.ok (eJ.at w.heap.size) (w.alloc jM):=by simpa[Instr.alloc,Instr.box,vT aL] using bO
    simp[execOp,aj,this]
 case box elem x=>
  cases ab:qF T x with
  |none=>rw[ab] at he;cases he
  |some v=>
   rw[ab] at he;obtain⟨jM,N,sz,bO,bA,cU,dn⟩:=TL (P:=P) (Lg aS ab) he w;exact⟨jM,N,sz,by simp[execOp,aj,bO],bA,cU,dn⟩
 case buildSlice t len parts=>
  cases ab:sN T parts.toList with
  |none=>rw[ab] at he;cases he
  |some ps=>
   rw[ab] at he;obtain⟨jM,N,sz,bO,bA,cU,dn⟩:=ace (P:=P) (amB aS ab) he w;have aC:(parts.toList.map fun(i,x)=>(i,df tmps x)).toArray=parts.map fun(i,x)=>(i,df tmps x):=by apply rS;simp
   rw[aC] at bO;exact⟨jM,N,sz,by simp[execOp,aj,bO],bA,cU,dn⟩
 case makeMap t r=>
  cases r with
  |some r=>
   obtain⟨rfl,rfl,rfl,key,el,hu⟩:=Xw (show GV P t r=some (b,eJ) from he);exact⟨.map #[] 0,0,0,by simp[execOp,aj,Instr.makeMap,newObj,Sem.run,jg.at,eY hu,df,asInt,asIntOf],trivial,rfl,rfl⟩
  |none=>
   simp only[cD,dK] at he;obtain⟨rfl,rfl⟩:=he;exact⟨.map #[] 0,0,0,by simp[execOp,aj,Instr.makeMap,newObj,Sem.run,jg.at],zE.nil _,rfl,rfl⟩
 case makeSlice t l c=>
  cases ad:qF T l with
  |none=>rw[ad] at he;cases he
  |some GY=>
   cases af:qF T c with
   |none=>rw[ad,af] at he;cases he
   |some d'=>
    rw[ad,af] at he;obtain⟨jM,N,sz,bO,bA,cU,dn⟩:=acg (P:=P) (Lg aS ad) (Lg aS af) he w;exact⟨jM,N,sz,by simp[execOp,aj,bO],bA,cU,dn⟩
 all_goals cases he
end
end
end Go.Cre

/- A part of the proof of ResumeBack. -/
import Derived.Test.YtiemfjdacfioeaaGreatDoorCai
import Derived.Orders
set_option linter.unusedVariables false
set_option linter.unusedSimpArgs false
namespace Go.Cre
noncomputable section
open Go.RowKit
section
variable {P:Program}{B:Nat->Prop}{w0 w:World}{μ:b1}{H H':aB}{S:bi}{fr:Frame}{tmps:Array Value}{ds:List Deferred}{cs:List Frame}{call:eH}{aR:gR}
variable {ops:Array Oper}{i:Nat}{rest:List Nat}{k:List Item}{o:Oper}
theorem iO.Bg(aC:iO μ S fr tmps ds cs):S.b2=true->∃c rest,cs=c::rest:=fun q=>by obtain⟨c,r,a,_⟩:=aC.bJ q;exact⟨c,r,a⟩
theorem adn{r:cM}(he:cO P call aR S H o=some r){c:Call}(ar:o.op=.defer c):S.cJ=none:=by
 unfold cO fq at he;simp only at he;rw[ar] at he;have he:vW P ⟨call,aR,S,H,o⟩ c=some r:=he;unfold vW at he;cases ay:S.cJ with
 |none=>rfl
 |some l=>simp only[ay] at he;cases he
theorem Cf{v v':Value}{bI:b1}{H':aB}{bu:World}{m:Machine}{dB:dH}(aC:iO bI S fr tmps ds cs)(oM:ca P B w0 bI H' bu)(af:Step μ bI H H')(az:bF bI v v')
 (di:Steps P m (lone (cj fr (uB tmps o.dst v') ds (.inRegion ops rest::k)) cs bu))(he:ma S o.dst v H'=some dB):kZ P B w0 μ H S fr cs m (.inRegion ops rest::k) dB:=by
 unfold ma pI at he;cases aw:S.put o.dst v with
 |none=>rw[aw] at he;cases he
 |some aS=>
  rw[aw] at he;have he:some (dH.ok aS H')=some dB:=he;injection he with he;subst he
  obtain⟨a,b,c,_,_⟩:=QV aC az aw;exact⟨bI,bu,_,ds,cs,oM,af,a,kV.refl _ _ aC.Bg,b,c,di⟩
theorem kZ.congr{S bq:bi}{m:Machine}{todo:List Item}{dB:dH}(aa:bq.b2=S.b2)(ae:bq.cJ=S.cJ)(h:kZ P B w0 μ H bq fr cs m todo dB):kZ P B w0 μ H S fr cs m todo dB:=by
 cases dB with
 |ok aS H'=>obtain⟨a,b,c,d,e,g1,g2,g3,g4,g5,g6,g7⟩:=h;exact⟨a,b,c,d,e,g1,g2,g3,aa▸g4,g5.trans aa,g6.trans ae,g7⟩
 |jE chain aS H'=>obtain⟨a,b,c,d,e,x,y,g1,g2,g3,g4,g5,g6,g7,g8⟩:=h;exact⟨a,b,c,d,e,x,y,g1,g2,g3,aa▸g4,g5.trans aa,g6.trans ae,g7,g8⟩
theorem anT{ops:Array Oper}{i:Nat}{rest:List Nat}{o:Oper}{bu:World}{v:Value}{cT:List Frame}(ar:ops[i]?=some o)(hw:Region.wanted o (yielded ops tmps)=true)(qo:fr.roundOf=none)
 (ay:(execOp (dA tmps) o).run P w=.ok .recover bu)(aD:(tryRecover (cj fr tmps ds (.inRegion ops (i::rest)::k)) cs).getD (.nilIface,cs)=(v,cT)):
 step P (lone (cj fr tmps ds (.inRegion ops (i::rest)::k)) cs w)=.next (lone (cj fr (uB tmps o.dst v) ds (.inRegion ops rest::k)) cT bu):=by
 rw[<-AU ar];refine step_lone_go ?_;rw[Cj ar hw (.inl qo)];have We:(cj fr tmps ds (.inRegion ops (i::rest)::k)).roundOf=none:=qo;cases U:tryRecover (cj fr tmps ds (.inRegion ops (i::rest)::k)) cs with
 |none=>
  rw[U] at aD;simp at aD;obtain⟨rfl,rfl⟩:=aD;simp[stepG.apply,ay,We,U]
 |some p=>
  obtain⟨v1,gi⟩:=p;rw[U] at aD;simp at aD;obtain⟨rfl,rfl⟩:=aD;simp[stepG.apply,ay,We,U]
theorem amP{ops:Array Oper}{i:Nat}{rest:List Nat}{v:Value}{bJ:FrameMode}(aC:iO μ S fr tmps ds cs)(he:rO S=some (v,bJ)):
 ∃v' cT,(tryRecover (cj fr tmps ds (.inRegion ops (i::rest)::k)) cs).getD (.nilIface,cs)=(v',cT)/\bF μ v v'/\iO μ (S.ye bJ) fr tmps ds cT/\kV S.b2 cs cT/\fr.roundOf=none:=by
 unfold rO at he;cases qo:S.cJ with
 |some l=>rw[qo] at he;cases he
 |none=>
  rw[qo] at he;have pw:=aC.zR qo;obtain⟨T,n,h4,b2,IV,cJ⟩:=S;cases b2 with
  |false=>
   simp only[dZ] at he;injection he with he;injection he with aN bn;subst aN;subst bn
   have aU:(cj fr tmps ds (.inRegion ops (i::rest)::k)).kind=.normal:=aC.kind;have:tryRecover (cj fr tmps ds (.inRegion ops (i::rest)::k)) cs=none:=by
    cases cs<;>simp[tryRecover,aU]
   rw[this];exact⟨_,_,rfl,bF.atom _ rfl,aC,rfl,pw⟩
  |true=>
   simp only[cb] at he;have aU:(cj fr tmps ds (.inRegion ops (i::rest)::k)).kind=.deferred:=aC.kind;obtain⟨c,Ch,rfl,hm⟩:=aC.bJ rfl;rw[tryRecover_deferred aU];have fy:recoverD (c::Ch)=none->v=.nilIface->bJ=IV->∃v' cT,(recoverD (c::Ch)).getD (.nilIface,c::Ch)=(v',cT)/\bF μ v v'/\iO μ (bi.ye bJ ⟨T,n,h4,true,IV,cJ⟩) fr tmps ds cT/\kV true (c::Ch) cT/\fr.roundOf=none:=by
    intro aa ae aG;subst ae;subst aG;rw[aa];exact⟨_,_,rfl,bF.atom _ rfl,aC,⟨c,Ch,c.mode,rfl,rfl⟩,pw⟩
   cases PQ:IV with
   |run=>
    subst PQ;simp only at he;injection he with he;injection he with aN bn
    refine fy ?_ aN.symm bn.symm;cases ri:c.mode<;>rw[ri] at hm<;>first|exact hm.elim|simp[recoverD,ri]
   |returning=>
    subst PQ;simp only at he;injection he with he;injection he with aN bn
    refine fy ?_ aN.symm bn.symm;cases ri:c.mode<;>rw[ri] at hm<;>first|exact hm.elim|simp[recoverD,ri]
   |panicking bU=>
    subst PQ;cases ri:c.mode with
    |run=>rw[ri] at hm;exact hm.elim
    |returning=>rw[ri] at hm;exact hm.elim
    |panicking AG=>
     rw[ri] at hm;have hm:iF μ bU AG:=hm;cases bU with
     |nil=>
      have:AG=[]:=yq hm.1.symm;subst this;simp only at he;injection he with he;injection he with aN bn
      exact fy (by simp[recoverD,ri]) aN.symm bn.symm
     |cons x Ls=>
      cases AG with
      |nil=>have:=hm.1;simp at this
      |cons dT alc=>
       obtain⟨bo,a2,a3⟩:=hm.2 0 x dT rfl rfl;obtain⟨Cz,apA,apx⟩:=x;obtain⟨RH,RG,aae⟩:=dT;simp only at bo a2 a3;subst bo;subst a2;cases RG with
       |true=>
        simp only at he;injection he with he;injection he with aN bn
        exact fy (by simp[recoverD,ri]) aN.symm bn.symm
       |false=>
        cases aae with
        |true=>
         simp only at he;injection he with he;injection he with aN bn
         exact fy (by simp[recoverD,ri]) aN.symm bn.symm
        |false=>
         simp only at he;injection he with he;injection he with aN bn
         subst aN;subst bn;refine⟨RH,{c with mode:=.panicking ({v:=RH,recovered:=true}::alc)}::Ch,by simp[recoverD,ri],a3,⟨aC.t,aC.d,aC.kind,aC.zR,aC.IH,fun _=>⟨_,_,rfl,?_⟩⟩,⟨c,Ch,_,rfl,rfl⟩,pw⟩;refine⟨by have:=hm.1;simpa using this,fun j e bG q dz=>?_⟩;cases j with
         |zero=>simp at q dz;subst q;subst dz;exact⟨rfl,rfl,a3⟩
         |succ j=>exact hm.2 (j+1) e bG (by simpa using q) (by simpa using dz)
theorem EH(hC:qM P B w0 call)(py:yz P B w0 aR)(h:ca P B w0 μ H w)(aC:iO μ S fr tmps ds cs)(ar:ops[i]?=some o){dB:dH}(he:one P call aR ops.toList S H o=some dB):
 kZ P B w0 μ H S fr cs (lone (cj fr tmps ds (.inRegion ops (i::rest)::k)) cs w) (.inRegion ops rest::k) dB:=by
 unfold one at he;cases aq:fj ops.toList S.T o with
 |none=>rw[aq] at he;cases he
 |some b=>
  rw[aq] at he;have hw:=UV aC.t aq;cases b with
  |false=>
   have he:ma S o.dst undef H=some dB:=he;exact Cf aC h (Step.refl _ _) (bF.undef μ) (.one (anZ ar hw)) he
  |true=>
   have he:pD S H o.dst (cO P call aR S H o)=some dB:=he;cases dW:cO P call aR S H o with
   |none=>rw[dW] at he;cases he
   |some r=>
    rw[dW] at he;have he:XQ S H o.dst r=some dB:=he;have dt:=aes h aC.t dW;have d':fr.roundOf=none\/∀c,o.op≠.defer c:=by
     by_cases aZ:∃c,o.op=.defer c
     ·obtain⟨c,aZ⟩:=aZ;exact .inl (aC.zR (adn dW aZ))
     ·exact .inr fun c q=>aZ ⟨c,q⟩
    cases r with
    |val v H1=>
     have he:ma S o.dst v H1=some dB:=he;rcases dt with⟨v',bu,bI,cI,ei,gN,iZ⟩|⟨f,args,cz,cI,ei,gN⟩|⟨l,L,args,cz,ll,cI,ei,gN⟩
     ·exact Cf (aC.mono gN.ext) ei gN iZ (.one (Rj ar hw d' cI)) he
     ·rcases hC f args H _ _ gN μ w cz h ei with⟨v0,v',bu,bI,aN,bn,cP,eW,cv⟩|⟨aN,bn⟩
      ·injection aN with aN;subst aN
       exact Cf (aC.mono eW.ext) cP eW cv (.one (Rj ar hw d' (cI.trans bn))) he
      ·obtain⟨bG,bu,ae7,⟨bI,g1,g2,g3⟩,OF,_,Pa⟩:=bn (cj fr tmps ds (.inRegion ops (i::rest)::k)::cs);cases bG with
       |returned v'=>
        refine Cf (aC.mono g2.ext) g1 g2 g3 ?_ he;rw[<-AU ar];exact .head (Zb ar hw d' (cI.trans aN)) (Steps.trans OF (.one (step_leave_returned Pa)))
       |panicked c=>exact g3.elim
       |outgrown=>exact g3.elim
     ·obtain⟨v0,f,E8,a,b,aN,bn,cP⟩:=py l args H _ _ gN μ w L cz h ll ei;injection aN with aN;subst aN
      obtain⟨v',bu,bI,g1,g2,g3,g4⟩:=cP (cj fr tmps ds (.inRegion ops (i::rest)::k)) cs;refine Cf (aC.mono g2.ext) g1 g2 g3 ?_ he;rw[<-AU ar];exact .head (anV ar hw d' (cI.trans bn)) g4
    |skip H1=>
     have he:ma S o.dst undef H1=some dB:=he;obtain⟨bu,cI,ei,gN⟩:=dt;exact Cf aC ei gN (bF.undef μ) (.one (anY ar hw d' cI)) he
    |iT d=>
     have he:BZ S H o.dst d=some dB:=he;unfold BZ at he;cases PB:S.cJ with
     |some l=>rw[PB] at he;cases he
     |none=>
     rw[PB] at he;have he:ma (S.Ff d) o.dst undef H=some dB:=he;obtain⟨fv,cap,eg,args,cz,rfl,cI,ei,gN,iZ⟩:=dt;have qo:fr.roundOf=none:=aC.zR PB;obtain⟨T,n,h4,b2,bJ,cJ⟩:=S
     have OM:iO μ (bi.Ff {target:=.fn fv cap,args:=args.toArray} ⟨T,n,h4,b2,bJ,cJ⟩) fr tmps ({target:=.fn fv eg,args:=cz.toArray}::ds) cs:=
      ⟨aC.t,.cons _ _ _ _ (.inl ⟨fv,cap,eg,rfl,rfl,ei,gN,by simpa using iZ⟩) aC.d,aC.kind,aC.zR,aC.IH,aC.bJ⟩
     exact kZ.congr (bq:=bi.Ff {target:=.fn fv cap,args:=args.toArray} ⟨T,n,h4,b2,bJ,cJ⟩) rfl rfl (Cf OM h (Step.refl _ _) (bF.undef μ) (.one (anL ar hw qo cI)) he)
    |jE chain H1=>
     have he:some (dH.jE chain S H1)=some dB:=he;injection he with he;subst he
     rcases dt with⟨v,v',rfl,rfl,cI,ei⟩|⟨f,args,cz,cI,ei,gN⟩
     ·exact⟨μ,w,tmps,ds,cs,_,_,h,Step.refl _ _,aC,kV.refl _ _ aC.Bg,rfl,rfl,iF.single ei,.one (anS ar hw d' cI)⟩
     ·rcases hC f args H _ _ gN μ w cz h ei with⟨v0,v',bu,bI,aN,_⟩|⟨aN,bn⟩
      ·cases aN
      ·obtain⟨bG,bu,ae7,⟨bI,g1,g2,g3⟩,OF,_,Pa⟩:=bn (cj fr tmps ds (.inRegion ops (i::rest)::k)::cs);cases bG with
       |returned v'=>exact g3.elim
       |panicked c=>
        refine⟨bI,bu,tmps,ds,cs,c,.inRegion ops (i::rest)::k,g1,g2,aC.mono g2.ext,kV.refl _ _ aC.Bg,rfl,rfl,g3,?_⟩;exact .head (Zb ar hw d' (cI.trans aN)) (Steps.trans OF (.one (step_leave_panicked Pa)))
       |outgrown=>exact g3.elim
    |Cd=>
     have he:It S H o.dst (rO S)=some dB:=he;cases D9:rO S with
     |none=>rw[D9] at he;cases he
     |some p=>
      obtain⟨v,bJ⟩:=p;rw[D9] at he;have he:ma (S.ye bJ) o.dst v H=some dB:=he;obtain⟨v',cT,t1,t2,t3,t4,t5⟩:=amP (k:=k) (ops:=ops) (i:=i) (rest:=rest) aC D9;unfold ma pI at he;cases aw:(S.ye bJ).put o.dst v with
      |none=>rw[aw] at he;cases he
      |some aS=>
       rw[aw] at he;have he:some (dH.ok aS H)=some dB:=he;injection he with he;subst he
       obtain⟨a,b,c,_,_⟩:=QV t3 t2 aw;exact⟨μ,w,_,ds,cT,h,Step.refl _ _,a,t4,b,c,.one (anT ar hw t5 dt t1)⟩
end
end
end Go.Cre
namespace Go.Cre
noncomputable section
open Go.RowKit
section
variable {P:Program}{B:Nat->Prop}{w0 w:World}{μ:b1}{H H':aB}{S:bi}{fr:Frame}{tmps:Array Value}{ds:List Deferred}{cs:List Frame}{call:eH}{aR:gR}
variable {ops:Array Oper}{k:List Item}
theorem kZ.steps{m m':Machine}{todo:List Item}{dB:dH}(af:Steps P m m')(h:kZ P B w0 μ H S fr cs m' todo dB):kZ P B w0 μ H S fr cs m todo dB:=by
 cases dB with
 |ok aS H'=>obtain⟨a,b,c,d,e,g1,g2,g3,g4,g5,g6,g7⟩:=h;exact⟨a,b,c,d,e,g1,g2,g3,g4,g5,g6,af.trans g7⟩
 |jE chain aS H'=>obtain⟨a,b,c,d,e,x,y,g1,g2,g3,g4,g5,g6,g7,g8⟩:=h;exact⟨a,b,c,d,e,x,y,g1,g2,g3,g4,g5,g6,g7,af.trans g8⟩
theorem kZ.bind{bq:bi}{H1:aB}{m:Machine}{Zt Zu:List Item}{dB:dH}(h:kZ P B w0 μ H S fr cs m Zt (.ok bq H1))
 (aU:∀fZ e3 Aa wZ gi,ca P B w0 fZ H1 e3->Step μ fZ H H1->iO fZ bq fr Aa wZ gi->kV S.b2 cs gi->bq.b2=S.b2->bq.cJ=S.cJ->kZ P B w0 fZ H1 bq fr gi (lone (cj fr Aa wZ Zt) gi e3) Zu dB):kZ P B w0 μ H S fr cs m Zu dB:=by
 obtain⟨fZ,e3,Aa,wZ,gi,g1,g2,g3,g4,g5,g6,g7⟩:=h;have dE:=(aU fZ e3 Aa wZ gi g1 g2 g3 g4 g5 g6).steps g7;cases dB with
 |ok aS H'=>obtain⟨a,b,c,d,e,bd,a6,b9,fN,kd,qE,QW⟩:=dE;exact⟨a,b,c,d,e,bd,g2.trans a6,b9,g4.trans (g5▸fN),kd.trans g5,qE.trans g6,QW⟩
 |jE chain aS H'=>obtain⟨a,b,c,d,e,x,y,bd,a6,b9,fN,kd,qE,QW,amC⟩:=dE;exact⟨a,b,c,d,e,x,y,bd,g2.trans a6,b9,g4.trans (g5▸fN),kd.trans g5,qE.trans g6,QW,amC⟩
theorem aet(hC:qM P B w0 call)(py:yz P B w0 aR)(l:List Oper):∀(i:Nat) (μ:b1) (w:World) (S:bi) (H:aB) (tmps:Array Value) (ds:List Deferred) (cs:List Frame) (dB:dH),
 ops.toList.drop i=l->ca P B w0 μ H w->iO μ S fr tmps ds cs->Dy P call aR ops.toList l S H=some dB->
 kZ P B w0 μ H S fr cs (lone (cj fr tmps ds (.inRegion ops (List.range' i l.length)::k)) cs w) k dB:=by
 induction l with
 |nil=>
  intro i μ w S H tmps ds cs dB _ h aC he;have he:some (dH.ok S H)=some dB:=he;injection he with he;subst he
  exact⟨μ,w,tmps,ds,cs,h,Step.refl _ _,aC,kV.refl _ _ aC.Bg,rfl,rfl,.one Rh⟩
 |cons o l aK=>
  intro i μ w S H tmps ds cs dB aZ h aC he;have he:Un (Dy P call aR ops.toList l) (one P call aR ops.toList S H o)=some dB:=he;have ar:ops[i]?=some o:=by
   have:(ops.toList.drop i)[0]?=some o:=by rw[aZ];rfl
   simpa using this
  have xl:ops.toList.drop (i+1)=l:=by
   have:(ops.toList.drop i).drop 1=l:=by rw[aZ];rfl
   rw[Ar] at this;exact this
  show kZ P B w0 μ H S fr cs (lone (cj fr tmps ds (.inRegion ops (i::List.range' (i+1) l.length)::k)) cs w) k dB;cases oX:one P call aR ops.toList S H o with
  |none=>rw[oX] at he;cases he
  |some cI=>
   rw[oX] at he;have aa:=EH (k:=k) (rest:=List.range' (i+1) l.length) hC py h aC ar oX;cases cI with
   |jE chain bq H1=>
    have he:some (dH.jE chain bq H1)=some dB:=he;injection he with he;subst he
    exact aa
   |ok bq H1=>
    have he:Dy P call aR ops.toList l bq H1=some dB:=he;exact aa.bind fun fZ e3 Aa wZ gi g1 _ g3 _ _ _=>aK (i+1) fZ e3 bq H1 Aa wZ gi dB xl g1 g3 he
end
end
end Go.Cre
namespace Go.Cre
noncomputable section
open Go.RowKit
section
variable {P:Program}{H:aB}{S aS:bi}{o:Oper}{call:eH}{aR:gR}
theorem Ix{T eS:bg Value}:∀{l:List Operand},(∀x∈l,bk eS H x=bk T H x)->ez eS H l=ez T H l:=by
 intro l;induction l with
 |nil=>intro _;rfl
 |cons x l aK=>
  intro h;simp only[ez];rw[h x (by simp),aK fun y ai=>h y (by simp[ai])]
theorem XY{T eS:bg Value}:∀{l:List (Nat×Operand)},(∀x∈l.map (·.2),bk eS H x=bk T H x)->lj eS H l=lj T H l:=by
 intro l;induction l with
 |nil=>intro _;rfl
 |cons x l aK=>
  intro h;obtain⟨i,x⟩:=x;simp only[lj];rw[h x (by simp),aK fun y ai=>h y (by simp at ai ⊢;exact .inr ai)]
theorem aeu{T eS:bg Value}(af:∀cs b,o.op≠.select cs b)(h:∀x∈o.op.operands,bk eS H x=bk T H x):fI P eS H o=fI P T H o:=by
 unfold fI;rw[Ix fun x U=>h x (by simpa using U)];have:execOp (pG eS H) o=execOp (pG T H) o:=execOp_congr o af fun x U=>by unfold pG;rw[h x U]
 rw[this]
theorem XT{T eS:bg Value}{x:Option Operand}(h:∀y∈x.toArray,bk eS H y=bk T H y):jD eS H x=jD T H x:=by
 cases x with
 |none=>rfl
 |some x=>simp only[jD];rw[h x (by simp)]
theorem J7(ay:aS.cJ=S.cJ)(h:∀x∈o.op.operands,bk aS.T H x=bk S.T H x):cO P call aR aS H o=cO P call aR S H o:=by
 have dO:(∀cs b,o.op≠.select cs b)->fI P aS.T H o=fI P S.T H o:=fun af=>aeu af h;unfold cO fq;obtain⟨dst,op,type,pos,after,guard⟩:=o;simp only at h dO;cases op<;>simp only[Op.operands] at h<;>simp only
 case move x=>show gp (bk aS.T H x) H=gp (bk S.T H x) H;rw[h x (by simp)]
 case assign x=>show gp (bk aS.T H x) H=gp (bk S.T H x) H;rw[h x (by simp)]
 case pick c a b=>
  show zN P _ a b (bk aS.T H c)=zN P _ a b (bk S.T H c);rw[h c (by simp)];have aN:bk aS.T H a=bk S.T H a:=h a (by simp);have bn:bk aS.T H b=bk S.T H b:=h b (by simp);unfold zN ek.bk;simp only[aN,bn]
 case alloc e=>rfl
 case box e x=>show Iu P _ e (bk aS.T H x)=Iu P _ e (bk S.T H x);rw[h x (by simp)];rfl
 case build t eG=>show B0 P _ t (lj aS.T H eG.toList)=B0 P _ t (lj S.T H eG.toList);rw[XY fun x U=>h x (by simpa using U)];rfl
 case buildSlice t n eG=>show Iv P _ t n (lj aS.T H eG.toList)=Iv P _ t n (lj S.T H eG.toList);rw[XY fun x U=>h x (by simpa using U)];rfl
 case load t a=>show B3 P _ t (bk aS.T H a)=B3 P _ t (bk S.T H a);rw[h a (by simp)];rfl
 case store t a v=>show EI P _ t (bk aS.T H a) (bk aS.T H v)=EI P _ t (bk S.T H a) (bk S.T H v);rw[h a (by simp),h v (by simp)];rfl
 case nilCheck x=>show B6 P _ (bk aS.T H x)=B6 P _ (bk S.T H x);rw[h x (by simp)];rfl
 case binOp op t x y u=>
  have aw:=dO (fun _ _=>by simp);show nM P _ op t (bk aS.T H x) (bk aS.T H y)=nM P _ op t (bk S.T H x) (bk S.T H y);rw[h x (by simp),h y (by simp)];have Ed:∀a b,ux P ⟨call,aR,aS,H,⟨dst,.binOp op t x y u,type,pos,after,guard⟩⟩ op t a b=ux P ⟨call,aR,S,H,⟨dst,.binOp op t x y u,type,pos,after,guard⟩⟩ op t a b:=fun a b=>by
   unfold ux ek.oh;simp only[aw];unfold uw;rfl
  unfold nM QF ek.oh;simp only[aw,Ed]
 case unOp op t x=>
  have aw:=dO (fun _ _=>by simp);exact aw
 case convert s d x=>
  have aw:=dO (fun _ _=>by simp);show uy P _ s d (bk aS.T H x)=uy P _ s d (bk S.T H x);rw[h x (by simp)];unfold uy ek.oh;simp only[aw]
 case makeInterface t x=>show B5 P _ t (bk aS.T H x) _=B5 P _ t (bk S.T H x) _;rw[h x (by simp)];rfl
 case makeFunc fn first captured=>
  show B4 P _ fn (ez aS.T H first.toList) (ez aS.T H captured.toList)=B4 P _ fn (ez S.T H first.toList) (ez S.T H captured.toList);rw[Ix fun x U=>h x (by simp at U;simp[U]),Ix fun x U=>h x (by simp at U;simp[U])];rfl
 case makeSlice t l c=>show Iw P _ t (bk aS.T H l) (bk aS.T H c)=Iw P _ t (bk S.T H l) (bk S.T H c);rw[h l (by simp),h c (by simp)];rfl
 case slice t x cm ao qx=>
  have aw:=dO (fun _ _=>by simp);cases qx with
  |some m=>rfl
  |none=>
   show qA P _ t (bk aS.T H x) (jD aS.T H cm) (jD aS.T H ao)=qA P _ t (bk S.T H x) (jD S.T H cm) (jD S.T H ao);rw[h x (by simp),XT (x:=cm) fun y ai=>h y (by simp at ai;simp[ai]),XT (x:=ao) fun y ai=>h y (by simp at ai;simp[ai])];unfold qA ek.oh;simp only[aw]
 case fieldAddr t x f=>show B2 P _ t f (bk aS.T H x)=B2 P _ t f (bk S.T H x);rw[h x (by simp)];rfl
 case field t x f=>show zJ P _ f (bk aS.T H x) _=zJ P _ f (bk S.T H x) _;rw[h x (by simp)];rfl
 case indexAddr t x i=>show zL P _ t (bk aS.T H x) (bk aS.T H i)=zL P _ t (bk S.T H x) (bk S.T H i);rw[h x (by simp),h i (by simp)];rfl
 case index t x i=>show zK P _ (bk aS.T H x) (bk aS.T H i) _=zK P _ (bk S.T H x) (bk S.T H i) _;rw[h x (by simp),h i (by simp)];rfl
 case typeAssert x t a ok=>show B7 P _ a ok (bk aS.T H x)=B7 P _ a ok (bk S.T H x);rw[h x (by simp)];rfl
 case extract x aX=>show B1 P _ aX (bk aS.T H x)=B1 P _ aX (bk S.T H x);rw[h x (by simp)];rfl
 case call c=>
  have aw:=dO (fun _ _=>by simp);have st:ez aS.T H c.args.toList=ez S.T H c.args.toList:=Ix fun x U=>h x (by simp[Call.operands,Fj.1 U]);show lI P _ c=lI P _ c;unfold lI;cases aH:c.callee with
  |builtin b=>
   simp only
   unfold pn;simp only[st,aw]
  |value f=>
   have aC:bk aS.T H f=bk S.T H f:=h f (by simp[Call.operands,aH]);simp only
   unfold po;simp only[st,aH,aC]
  |invoke r m=>
   have aC:bk aS.T H r=bk S.T H r:=h r (by simp[Call.operands,aH]);simp only
   unfold po;simp only[st,aH,aC]
 case defer c=>
  have st:ez aS.T H c.args.toList=ez S.T H c.args.toList:=Ix fun x U=>h x (by simp[Call.operands,Fj.1 U]);show vW P _ c=vW P _ c;unfold vW Gu;simp only[ay,st];cases aH:c.callee with
  |builtin b=>rfl
  |value f=>
   have aC:bk aS.T H f=bk S.T H f:=h f (by simp[Call.operands,aH]);simp only[aC]
  |invoke r m=>
   have aC:bk aS.T H r=bk S.T H r:=h r (by simp[Call.operands,aH]);simp only[aC]
 case panic x=>show Lt P _ (bk aS.T H x)=Lt P _ (bk S.T H x);rw[h x (by simp)];rfl
end
end
end Go.Cre
namespace Go.Cre
noncomputable section
open Go.RowKit
section
variable {P:Program}{H H':aB}{S aS:bi}{o:Oper}{call:eH}{aR:gR}{v:Value}
theorem pP{x:Option Value}(he:gp x H=some (.val v H')):H'=H:=by
 cases x with
 |none=>cases he
 |some x=>have he:some (cM.val x H)=some (.val v H'):=he;injection he with he;injection he with _ he;exact he.symm
theorem aev{T:bg Value}(he:fI P T H o=some (.val v H')):H'=H:=by
 unfold fI at he;cases aa:ez T H o.op.operands.toList with
 |none=>rw[aa] at he;cases he
 |some vs=>
  rw[aa] at he;cases ae:vs.all plain with
  |false=>simp only[ae] at he;cases he
  |true=>
   simp only[ae,cb] at he;cases aG:eP P (execOp (pG T H) o) with
   |none=>rw[aG] at he;cases he
   |some r=>
    rw[aG] at he;cases r with
    |value u=>
     simp only at he;cases br:plain u with
     |false=>rw[br] at he;cases he
     |true=>rw[br] at he;injection he with he;injection he with _ he;exact he.symm
    |skip=>injection he with he;cases he
    |_=>cases he
theorem XV{a b:Option cM}(a':a=some (.val v H')->H'=H)(au:b=some (.val v H')->H'=H)(he:orElse a b=some (.val v H')):H'=H:=by
 cases a with
 |none=>exact au he
 |some a=>exact a' he
theorem LM{n:Int}{k:IntKind}(he:q' n (pJ H k)=some (.val v H')):H'=H:=by
 rcases n with(_|m)|(_|m)<;>(injection he with he;injection he with _ he;exact he.symm)
theorem am1{b:Bool}(he:x0 H b=some (.val v H')):H'=H:=by
 cases b<;>(injection he with he;injection he with _ he;exact he.symm)
theorem abq{b:Bool}{u:Value}(h:(bif b then none else some (cM.val u H))=some (.val v H')):H'=H:=by
 cases b<;>simp at h;exact h.2.symm
theorem Um(aH:Eo o.op=false)(a':zt o.op=false)(he:cO P call aR S H o=some (.val v H'))(e0:H'.ak=H.ak):H'=H:=by
 unfold cO fq at he;obtain⟨dst,op,type,pos,after,guard⟩:=o;have dO:∀o',fI P S.T H o'=some (.val v H')->H'=H:=fun o' q=>aev q;cases op<;>simp only[Eo,zt] at aH a'<;>simp only at he
 case move x=>exact pP (x:=bk S.T H x) he
 case assign x=>exact pP (x:=bk S.T H x) he
 case pick c a b=>
  have he:zN P _ a b (bk S.T H c)=_:=he;unfold zN at he;split at he
  ·exact pP he
  ·exact pP he
  ·cases he
 case alloc=>cases a'
 case box=>cases a'
 case build t eG=>
  have he:B0 P _ t (lj S.T H eG.toList)=_:=he;unfold B0 at he;split at he
  ·exact pP he
  ·cases he
 case buildSlice=>cases a'
 case load t a=>
  have he:B3 P _ t (bk S.T H a)=_:=he;unfold B3 at he;split at he
  ·exact pP he
  ·cases he
 case nilCheck x=>
  have he:B6 P _ (bk S.T H x)=_:=he;unfold B6 at he;split at he<;>first|(injection he with he;injection he with _ he;exact he.symm)|cases he
 case binOp op t x y u=>
  have he:nM P _ op t (bk S.T H x) (bk S.T H y)=_:=he;have Ed:∀X:ek,X.H=H->X.S=S->∀a b,ux P X op t a b=some (.val v H')->H'=H:=fun X k6 ax a b q=>by
   unfold ux at q;refine XV (fun q=>?_) (fun q=>?_) q
   ·unfold ek.oh at q;rw[k6,ax] at q;exact dO _ q
   ·unfold uw at q;split at q
    ·split at q
     ·injection q with q;injection q with _ q;rw[<-q,k6]
     ·cases q
    ·split at q
     ·injection q with q;injection q with _ q;rw[<-q,k6]
     ·cases q
    ·cases q
  unfold nM at he;split at he
  ·unfold QF at he;rename_i k a l b _ _;cases aU:uk k l with
   |false=>rw[aU,dZ] at he;exact Ed _ (by rfl) (by rfl) _ _ he
   |true=>
    rw[aU,cb] at he;unfold nd at he;split at he<;>first|exact LM he|exact am1 he|exact dO _ he
  ·exact Ed _ (by rfl) (by rfl) _ _ he
  ·cases he
 case unOp op t x=>exact dO _ he
 case convert s d x=>
  have he:uy P _ s d (bk S.T H x)=_:=he;unfold uy at he;split at he
  ·cases he
  ·rename_i rR _;cases az:w7 P H s d rR with
   |none=>rw[az] at he;exact dO _ he
   |some p=>
    obtain⟨u,H1⟩:=p;rw[az] at he;have he:some (cM.val u H1)=some (.val v H'):=he;injection he with he;injection he with _ he;subst he
    have:=aeB az;omega
  ·exact pP he
  ·exact pP he
  ·split at he
   ·exact LM he
   ·exact dO _ he
  ·exact dO _ he
 case makeInterface t x=>
  have he:B5 P _ t (bk S.T H x) (P.underlying t)=_:=he;unfold B5 at he;split at he<;>first|(injection he with he;injection he with _ he;exact he.symm)|cases he
 case makeFunc fn first captured=>
  have he:B4 P _ fn (ez S.T H first.toList) (ez S.T H captured.toList)=_:=he;unfold B4 at he;split at he
  ·split at he
   ·cases he
   ·injection he with he;injection he with _ he;exact he.symm
  ·cases he
 case makeMap=>cases a'
 case makeSlice=>cases a'
 case slice t x cm ao qx=>
  cases qx with
  |some m=>cases he
  |none=>
   have he:qA P _ t (bk S.T H x) (jD S.T H cm) (jD S.T H ao)=_:=he;unfold qA at he;split at he
   ·exact XV (fun q=>pP q) (fun q=>dO _ q) he
   ·cases he
 case fieldAddr t x f=>
  have he:B2 P _ t f (bk S.T H x)=_:=he;unfold B2 at he;split at he
  ·exact pP he
  ·cases he
 case field t x f=>
  have he:zJ P _ f (bk S.T H x) (P.underlying t)=_:=he;unfold zJ at he;split at he
  ·split at he
   ·exact pP he
   ·cases he
  ·cases he
 case indexAddr t x i=>
  have he:zL P _ t (bk S.T H x) (bk S.T H i)=_:=he;unfold zL at he;split at he
  ·exact pP he
  ·cases he
 case index t x i=>
  have he:zK P _ (bk S.T H x) (bk S.T H i) (P.underlying t)=_:=he;unfold zK at he;split at he
  ·split at he
   ·exact pP he
   ·cases he
  ·split at he
   ·split at he
    ·exact LM he
    ·cases he
   ·cases he
  ·cases he
 case typeAssert x t a ok=>
  have he:B7 P _ a ok (bk S.T H x)=_:=he;unfold B7 at he;split at he
  ·exact pP he
  ·cases he
 case extract x aX=>
  have he:B1 P _ aX (bk S.T H x)=_:=he;unfold B1 at he;split at he
  ·exact pP he
  ·cases he
 case call c=>
  have he:lI P _ c=_:=he;obtain⟨callee,args,argTypes⟩:=c;unfold lI at he;cases callee with
  |value f=>cases aH
  |invoke r m=>cases aH
  |builtin b=>
   simp only at he aH;unfold pn at he;split at he
   ·cases he
   ·cases b<;>simp only at aH<;>first|cases aH|skip
    all_goals simp only at he
    all_goals first
     |exact dO _ he
     |skip
    all_goals (
     split at he
     all_goals first
      |contradiction
      |exact dO _ he
      |(cases he;done)
      |(cases he;rfl)
      |skip
     all_goals (
      split at he
      all_goals first
       |contradiction
       |exact dO _ he
       |(cases he;done)
       |(cases he;rfl)
       |exact abq he
       |(split at he<;>first|(cases he;done)|exact LM he)
       |(split at he<;>first|(cases he;done)|(cases he;rfl))))
 all_goals first|(cases aH;done)|(cases he;done)
end
end
end Go.Cre

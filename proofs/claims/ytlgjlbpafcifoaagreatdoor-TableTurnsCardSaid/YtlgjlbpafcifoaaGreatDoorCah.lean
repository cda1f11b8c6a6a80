/- A part of the proof of TableTurns. -/
import Derived.Test.YtlgjlbpafcifoaaGreatDoorCag
import Derived.Orders
set_option linter.unusedVariables false
set_option linter.unusedSimpArgs false
namespace Go.Cre
noncomputable section
open Go.RowKit
section
variable {P:Program}{B:Nat->Prop}{w0 w:World}{μ:bL}{H H':an}{S:aV}{fr:Frame}{tmps:Array Value}{ds:List Deferred}{cs:List Frame}{call:eo}{aE:gU}
variable {ops:Array Oper}{i:Nat}{rest:List Nat}{k:List Item}{o:Oper}
theorem hJ.tj(aA:hJ P μ S fr tmps ds cs):S.bG=true->∃c rest,cs=c::rest:=fun q=>by obtain⟨c,r,a,_⟩:=aA.bd q;exact⟨c,r,a⟩
theorem aeD{r:cE}(he:cj P call aE S H o=some r){c:Call}(ah:o.op=.defer c):S.cc=none:=by
 unfold cj eF at he;simp only at he;rw[ah] at he;have he:vk P ⟨call,aE,S,H,o⟩ c=some r:=he;unfold vk at he;cases aq:S.cc with
 |none=>rfl
 |some l=>simp only[aq] at he;cases he
theorem A2{v v':Value}{bf:bL}{H':an}{a5:World}{m:Machine}{bB:dd}(aA:hJ P bf S fr tmps ds cs)(gO:bX P B w0 bf H' a5)(hs:Step μ bf H H')(ar:bg bf v v')
 (dn:Steps P m (lone (bH fr (tN tmps o.dst v') ds (.inRegion ops rest::k)) cs a5))(he:lz S o.dst v H'=some bB):kq P B w0 μ H S fr cs m (.inRegion ops rest::k) bB:=by
 unfold lz mq at he;cases ao:S.put o.dst v with
 |none=>rw[ao] at he;cases he
 |some aC=>
  rw[ao] at he;have he:some (dd.ok aC H')=some bB:=he;injection he with he;subst he
  obtain⟨a,b,c,_,_⟩:=Rb aA ar ao;exact⟨bf,a5,_,ds,cs,gO,hs,a,jz.refl _ _ aA.tj,b,c,dn⟩
theorem kq.congr{S a0:aV}{m:Machine}{todo:List Item}{bB:dd}(ab:a0.bG=S.bG)(ad:a0.cc=S.cc)(h:kq P B w0 μ H a0 fr cs m todo bB):kq P B w0 μ H S fr cs m todo bB:=by
 cases bB with
 |ok aC H'=>obtain⟨a,b,c,d,e,bY,bZ,cz,fu,fM,gN,gp⟩:=h;exact⟨a,b,c,d,e,bY,bZ,cz,ab▸fu,fM.trans ab,gN.trans ad,gp⟩
 |fO chain aC H'=>obtain⟨a,b,c,d,e,x,y,bY,bZ,cz,fu,fM,gN,gp,ov⟩:=h;exact⟨a,b,c,d,e,x,y,bY,bZ,cz,ab▸fu,fM.trans ab,gN.trans ad,gp,ov⟩
theorem apB{ops:Array Oper}{i:Nat}{rest:List Nat}{o:Oper}{a5:World}{v:Value}{cy:List Frame}(ah:ops[i]?=some o)(hw:Region.wanted o (yielded ops tmps)=true)(tw:fr.roundOf=none)
 (aq:(execOp (cU tmps) o).run P w=.ok .recover a5)(aJ:(tryRecover (bH fr tmps ds (.inRegion ops (i::rest)::k)) cs).getD (.nilIface,cs)=(v,cy)):
 step P (lone (bH fr tmps ds (.inRegion ops (i::rest)::k)) cs w)=.next (lone (bH fr (tN tmps o.dst v) ds (.inRegion ops rest::k)) cy a5):=by
 rw[<-zW ah];refine step_lone_go ?_;rw[A6 ah hw (.inl tw)];have Wi:(bH fr tmps ds (.inRegion ops (i::rest)::k)).roundOf=none:=tw;cases U:tryRecover (bH fr tmps ds (.inRegion ops (i::rest)::k)) cs with
 |none=>
  rw[U] at aJ;simp at aJ;obtain⟨rfl,rfl⟩:=aJ;simp[stepG.apply,aq,Wi,U]
 |some p=>
  obtain⟨v1,gj⟩:=p;rw[U] at aJ;simp at aJ;obtain⟨rfl,rfl⟩:=aJ;simp[stepG.apply,aq,Wi,U]
theorem aoe{ops:Array Oper}{i:Nat}{rest:List Nat}{v:Value}{bd:FrameMode}(aA:hJ P μ S fr tmps ds cs)(he:pC S=some (v,bd)):
 ∃v' cy,(tryRecover (bH fr tmps ds (.inRegion ops (i::rest)::k)) cs).getD (.nilIface,cs)=(v',cy)/\bg μ v v'/\hJ P μ (S.xG bd) fr tmps ds cy/\jz S.bG cs cy/\fr.roundOf=none:=by
 unfold pC at he;cases tw:S.cc with
 |some l=>rw[tw] at he;cases he
 |none=>
  rw[tw] at he;have cx:=aA.tR tw;obtain⟨T,n,fx,bG,HA,cc⟩:=S;cases bG with
  |false=>
   simp only[da] at he;injection he with he;injection he with aw aR;subst aw;subst aR
   have hk:(bH fr tmps ds (.inRegion ops (i::rest)::k)).kind=.normal:=aA.kind;have:tryRecover (bH fr tmps ds (.inRegion ops (i::rest)::k)) cs=none:=by
    cases cs<;>simp[tryRecover,hk]
   rw[this];exact⟨_,_,rfl,bg.atom _ rfl,aA,rfl,cx⟩
  |true=>
   simp only[b4] at he;have hk:(bH fr tmps ds (.inRegion ops (i::rest)::k)).kind=.deferred:=aA.kind;obtain⟨c,A4,rfl,hm⟩:=aA.bd rfl;rw[tryRecover_deferred hk];have gr:recoverD (c::A4)=none->v=.nilIface->bd=HA->∃v' cy,(recoverD (c::A4)).getD (.nilIface,c::A4)=(v',cy)/\bg μ v v'/\hJ P μ (aV.xG bd ⟨T,n,fx,true,HA,cc⟩) fr tmps ds cy/\jz true (c::A4) cy/\fr.roundOf=none:=by
    intro ab ad aL;subst ad;subst aL;rw[ab];exact⟨_,_,rfl,bg.atom _ rfl,aA,⟨c,A4,c.mode,rfl,rfl⟩,cx⟩
   cases PF:HA with
   |run=>
    subst PF;simp only at he;injection he with he;injection he with aw aR
    refine gr ?_ aw.symm aR.symm;cases nV:c.mode<;>rw[nV] at hm<;>first|exact hm.elim|simp[recoverD,nV]
   |returning=>
    subst PF;simp only at he;injection he with he;injection he with aw aR
    refine gr ?_ aw.symm aR.symm;cases nV:c.mode<;>rw[nV] at hm<;>first|exact hm.elim|simp[recoverD,nV]
   |panicking bk=>
    subst PF;cases nV:c.mode with
    |run=>rw[nV] at hm;exact hm.elim
    |returning=>rw[nV] at hm;exact hm.elim
    |panicking vW=>
     rw[nV] at hm;have hm:ig μ bk vW:=hm;cases bk with
     |nil=>
      have:vW=[]:=kn hm.1.symm;subst this;simp only at he;injection he with he;injection he with aw aR
      exact gr (by simp[recoverD,nV]) aw.symm aR.symm
     |cons x KT=>
      cases vW with
      |nil=>have:=hm.1;simp at this
      |cons dv amy=>
       obtain⟨a7,bc,cu⟩:=hm.2 0 x dv rfl rfl;obtain⟨Bt,arB,arz⟩:=x;obtain⟨Sd,Sc,aaZ⟩:=dv;simp only at a7 bc cu;subst a7;subst bc;cases Sc with
       |true=>
        simp only at he;injection he with he;injection he with aw aR
        exact gr (by simp[recoverD,nV]) aw.symm aR.symm
       |false=>
        cases aaZ with
        |true=>
         simp only at he;injection he with he;injection he with aw aR
         exact gr (by simp[recoverD,nV]) aw.symm aR.symm
        |false=>
         simp only at he;injection he with he;injection he with aw aR
         subst aw;subst aR;refine⟨Sd,{c with mode:=.panicking ({v:=Sd,recovered:=true}::amy)}::A4,by simp[recoverD,nV],cu,⟨aA.t,aA.d,aA.kind,aA.tR,aA.y2,(fun _=>⟨_,_,rfl,?_⟩),aA.fn⟩,⟨c,A4,_,rfl,rfl⟩,cx⟩;refine⟨by have:=hm.1;simpa using this,fun j e bC q dj=>?_⟩;cases j with
         |zero=>simp at q dj;subst q;subst dj;exact⟨rfl,rfl,cu⟩
         |succ j=>exact hm.2 (j+1) e bC (by simpa using q) (by simpa using dj)
theorem AQ(gR:oQ P B w0 call)(mL:vN P B w0 aE)(h:bX P B w0 μ H w)(aA:hJ P μ S fr tmps ds cs)(ah:ops[i]?=some o){bB:dd}(he:one P call aE ops.toList S H o=some bB):
 kq P B w0 μ H S fr cs (lone (bH fr tmps ds (.inRegion ops (i::rest)::k)) cs w) (.inRegion ops rest::k) bB:=by
 unfold one at he;cases ax:fa ops.toList S.T o with
 |none=>rw[ax] at he;cases he
 |some b=>
  rw[ax] at he;have hw:=U1 aA.t ax;cases b with
  |false=>
   have he:lz S o.dst undef H=some bB:=he;exact A2 aA h (Step.refl _ _) (bg.undef μ) (.one (apG ah hw)) he
  |true=>
   have he:np S H o.dst (cj P call aE S H o)=some bB:=he;cases eg:cj P call aE S H o with
   |none=>rw[eg] at he;cases he
   |some r=>
    rw[eg] at he;have he:Yr S H o.dst r=some bB:=he;have bu:=afT h aA.t eg;have dP:fr.roundOf=none\/∀c,o.op≠.defer c:=by
     by_cases al:∃c,o.op=.defer c
     ·obtain⟨c,al⟩:=al;exact .inl (aA.tR (aeD eg al))
     ·exact .inr fun c q=>al ⟨c,q⟩
    cases r with
    |val v H1=>
     have he:lz S o.dst v H1=some bB:=he;rcases bu with⟨v',a5,bf,cX,cW,eR,hH⟩|⟨f,args,bP,cX,cW,eR⟩|⟨l,L,args,bP,kB,cX,cW,eR⟩
     ·exact A2 (aA.mono eR.ext) cW eR hH (.one (RF ah hw dP cX)) he
     ·rcases gR f args H _ _ eR μ w bP h cW with⟨v0,v',a5,bf,aw,aR,cf,dK,cr⟩|⟨aw,aR⟩
      ·injection aw with aw;subst aw
       exact A2 (aA.mono dK.ext) cf dK cr (.one (RF ah hw dP (cX.trans aR))) he
      ·obtain⟨bC,a5,UN,⟨bf,bY,bZ,cz⟩,Cy,_,CI⟩:=aR (bH fr tmps ds (.inRegion ops (i::rest)::k)::cs);cases bC with
       |returned v'=>
        refine A2 (aA.mono bZ.ext) bY bZ cz ?_ he;rw[<-zW ah];exact .head (ZY ah hw dP (cX.trans aw)) (Steps.trans Cy (.one (step_leave_returned CI)))
       |panicked c=>exact cz.elim
       |outgrown=>exact cz.elim
     ·obtain⟨f,oM,a,b,aR,cf⟩:=mL l args H _ _ eR μ w L bP h kB cW;obtain⟨bC,a5,bf,bY,bZ,cz,fu⟩:=cf (bH fr tmps ds (.inRegion ops (i::rest)::k)) cs;cases bC with
      |returned v'=>
       refine A2 (aA.mono bZ.ext) bY bZ cz ?_ he;rw[<-zW ah];exact .head (Z2 ah hw dP (cX.trans aR)) fu
      |panicked c=>exact cz.elim
      |outgrown=>exact cz.elim
    |skip H1=>
     have he:lz S o.dst undef H1=some bB:=he;obtain⟨a5,cX,cW,eR⟩:=bu;exact A2 aA cW eR (bg.undef μ) (.one (apF ah hw dP cX)) he
    |gk d=>
     have he:yR S H o.dst d=some bB:=he;unfold yR at he;cases Ps:S.cc with
     |some l=>rw[Ps] at he;cases he
     |none=>
     rw[Ps] at he;have he:lz (S.DP d) o.dst undef H=some bB:=he;obtain⟨kv,cap,dT,args,bP,rfl,cX,cW,eR,hH⟩:=bu;have tw:fr.roundOf=none:=aA.tR Ps;obtain⟨T,n,fx,bG,bd,cc⟩:=S
     have OF:hJ P μ (aV.DP {target:=.fn kv cap,args:=args.toArray} ⟨T,n,fx,bG,bd,cc⟩) fr tmps ({target:=.fn kv dT,args:=bP.toArray}::ds) cs:=
      ⟨aA.t,.cons _ _ _ _ (.inl ⟨kv,cap,dT,rfl,rfl,cW,eR,by simpa using hH⟩) aA.d,aA.kind,aA.tR,aA.y2,aA.bd,aA.fn⟩
     exact kq.congr (a0:=aV.DP {target:=.fn kv cap,args:=args.toArray} ⟨T,n,fx,bG,bd,cc⟩) rfl rfl (A2 OF h (Step.refl _ _) (bg.undef μ) (.one (apm ah hw tw cX)) he)
    |fO chain H1=>
     have he:some (dd.fO chain S H1)=some bB:=he;injection he with he;subst he
     rcases bu with⟨v,v',rfl,rfl,cX,cW⟩|⟨f,args,bP,cX,cW,eR⟩|⟨l,L,args,bP,kB,cX,cW,eR⟩
     ·exact⟨μ,w,tmps,ds,cs,_,_,h,Step.refl _ _,aA,jz.refl _ _ aA.tj,rfl,rfl,ig.single cW,.one (apx ah hw dP cX)⟩
     ·rcases gR f args H _ _ eR μ w bP h cW with⟨v0,v',a5,bf,aw,_⟩|⟨aw,aR⟩
      ·cases aw
      ·obtain⟨bC,a5,UN,⟨bf,bY,bZ,cz⟩,Cy,_,CI⟩:=aR (bH fr tmps ds (.inRegion ops (i::rest)::k)::cs);cases bC with
       |returned v'=>exact cz.elim
       |panicked c=>
        refine⟨bf,a5,tmps,ds,cs,c,.inRegion ops (i::rest)::k,bY,bZ,aA.mono bZ.ext,jz.refl _ _ aA.tj,rfl,rfl,cz,?_⟩;exact .head (ZY ah hw dP (cX.trans aw)) (Steps.trans Cy (.one (step_leave_panicked CI)))
       |outgrown=>exact cz.elim
     ·obtain⟨f,oM,a,b,aR,cf⟩:=mL l args H _ _ eR μ w L bP h kB cW;obtain⟨bC,a5,bf,bY,bZ,cz,fu⟩:=cf (bH fr tmps ds (.inRegion ops (i::rest)::k)) cs;cases bC with
      |returned v'=>exact cz.elim
      |panicked c=>
       refine⟨bf,a5,tmps,ds,cs,c,.inRegion ops (i::rest)::k,bY,bZ,aA.mono bZ.ext,jz.refl _ _ aA.tj,rfl,rfl,cz,?_⟩;exact .head (Z2 ah hw dP (cX.trans aR)) fu
      |outgrown=>exact cz.elim
    |y0=>
     have he:Dt S H o.dst (pC S)=some bB:=he;cases nZ:pC S with
     |none=>rw[nZ] at he;cases he
     |some p=>
      obtain⟨v,bd⟩:=p;rw[nZ] at he;have he:lz (S.xG bd) o.dst v H=some bB:=he;obtain⟨v',cy,t1,t2,t3,t4,t5⟩:=aoe (k:=k) (ops:=ops) (i:=i) (rest:=rest) aA nZ;unfold lz mq at he;cases ao:(S.xG bd).put o.dst v with
      |none=>rw[ao] at he;cases he
      |some aC=>
       rw[ao] at he;have he:some (dd.ok aC H)=some bB:=he;injection he with he;subst he
       obtain⟨a,b,c,_,_⟩:=Rb t3 t2 ao;exact⟨μ,w,_,ds,cy,h,Step.refl _ _,a,t4,b,c,.one (apB ah hw t5 bu t1)⟩
end
end
end Go.Cre
namespace Go.Cre
noncomputable section
open Go.RowKit
section
variable {P:Program}{B:Nat->Prop}{w0 w:World}{μ:bL}{H H':an}{S:aV}{fr:Frame}{tmps:Array Value}{ds:List Deferred}{cs:List Frame}{call:eo}{aE:gU}
variable {ops:Array Oper}{k:List Item}
theorem kq.steps{m m':Machine}{todo:List Item}{bB:dd}(hs:Steps P m m')(h:kq P B w0 μ H S fr cs m' todo bB):kq P B w0 μ H S fr cs m todo bB:=by
 cases bB with
 |ok aC H'=>obtain⟨a,b,c,d,e,bY,bZ,cz,fu,fM,gN,gp⟩:=h;exact⟨a,b,c,d,e,bY,bZ,cz,fu,fM,gN,hs.trans gp⟩
 |fO chain aC H'=>obtain⟨a,b,c,d,e,x,y,bY,bZ,cz,fu,fM,gN,gp,ov⟩:=h;exact⟨a,b,c,d,e,x,y,bY,bZ,cz,fu,fM,gN,gp,hs.trans ov⟩
theorem kq.bind{a0:aV}{H1:an}{m:Machine}{aak aal:List Item}{bB:dd}(h:kq P B w0 μ H S fr cs m aak (.ok a0 H1))
 (hk:∀e2 bt y' uF gj,bX P B w0 e2 H1 bt->Step μ e2 H H1->hJ P e2 a0 fr y' uF gj->jz S.bG cs gj->a0.bG=S.bG->a0.cc=S.cc->kq P B w0 e2 H1 a0 fr gj (lone (bH fr y' uF aak) gj bt) aal bB):kq P B w0 μ H S fr cs m aal bB:=by
 obtain⟨e2,bt,y',uF,gj,bY,bZ,cz,fu,fM,gN,gp⟩:=h;have cT:=(hk e2 bt y' uF gj bY bZ cz fu fM gN).steps gp;cases bB with
 |ok aC H'=>obtain⟨a,b,c,d,e,aK,aH,bJ,dU,fP,je,rq⟩:=cT;exact⟨a,b,c,d,e,aK,bZ.trans aH,bJ,fu.trans (fM▸dU),fP.trans fM,je.trans gN,rq⟩
 |fO chain aC H'=>obtain⟨a,b,c,d,e,x,y,aK,aH,bJ,dU,fP,je,rq,pA⟩:=cT;exact⟨a,b,c,d,e,x,y,aK,bZ.trans aH,bJ,fu.trans (fM▸dU),fP.trans fM,je.trans gN,rq,pA⟩
theorem afU(gR:oQ P B w0 call)(mL:vN P B w0 aE)(l:List Oper):∀(i:Nat) (μ:bL) (w:World) (S:aV) (H:an) (tmps:Array Value) (ds:List Deferred) (cs:List Frame) (bB:dd),
 ops.toList.drop i=l->bX P B w0 μ H w->hJ P μ S fr tmps ds cs->Cd P call aE ops.toList l S H=some bB->
 kq P B w0 μ H S fr cs (lone (bH fr tmps ds (.inRegion ops (List.range' i l.length)::k)) cs w) k bB:=by
 induction l with
 |nil=>
  intro i μ w S H tmps ds cs bB _ h aA he;have he:some (dd.ok S H)=some bB:=he;injection he with he;subst he
  exact⟨μ,w,tmps,ds,cs,h,Step.refl _ _,aA,jz.refl _ _ aA.tj,rfl,rfl,.one RD⟩
 |cons o l aP=>
  intro i μ w S H tmps ds cs bB al h aA he;have he:UD (Cd P call aE ops.toList l) (one P call aE ops.toList S H o)=some bB:=he;have ah:ops[i]?=some o:=by
   have:(ops.toList.drop i)[0]?=some o:=by rw[al];rfl
   simpa using this
  have z9:ops.toList.drop (i+1)=l:=by
   have:(ops.toList.drop i).drop 1=l:=by rw[al];rfl
   rw[D2] at this;exact this
  show kq P B w0 μ H S fr cs (lone (bH fr tmps ds (.inRegion ops (i::List.range' (i+1) l.length)::k)) cs w) k bB;cases mI:one P call aE ops.toList S H o with
  |none=>rw[mI] at he;cases he
  |some cX=>
   rw[mI] at he;have ab:=AQ (k:=k) (rest:=List.range' (i+1) l.length) gR mL h aA ah mI;cases cX with
   |fO chain a0 H1=>
    have he:some (dd.fO chain a0 H1)=some bB:=he;injection he with he;subst he
    exact ab
   |ok a0 H1=>
    have he:Cd P call aE ops.toList l a0 H1=some bB:=he;exact ab.bind fun e2 bt y' uF gj bY _ cz _ _ _=>aP (i+1) e2 bt a0 H1 y' uF gj bB z9 bY cz he
end
end
end Go.Cre
namespace Go.Cre
noncomputable section
open Go.RowKit
section
variable {P:Program}{H:an}{S aC:aV}{o:Oper}{call:eo}{aE:gU}
theorem Hc{T dD:aW Value}:∀{l:List Operand},(∀x∈l,a1 dD H x=a1 T H x)->fy dD H l=fy T H l:=by
 intro l;induction l with
 |nil=>intro _;rfl
 |cons x l aP=>
  intro h;simp only[fy];rw[h x (by simp),aP fun y au=>h y (by simp[au])]
theorem YA{T dD:aW Value}:∀{l:List (Nat×Operand)},(∀x∈l.map (·.2),a1 dD H x=a1 T H x)->k5 dD H l=k5 T H l:=by
 intro l;induction l with
 |nil=>intro _;rfl
 |cons x l aP=>
  intro h;obtain⟨i,x⟩:=x;simp only[k5];rw[h x (by simp),aP fun y au=>h y (by simp at au ⊢;exact .inr au)]
theorem afV{T dD:aW Value}(hs:∀cs b,o.op≠.select cs b)(h:∀x∈o.op.operands,a1 dD H x=a1 T H x):fl P dD H o=fl P T H o:=by
 unfold fl;rw[Hc fun x U=>h x (by simpa using U)];have:execOp (px dD H) o=execOp (px T H) o:=execOp_congr o hs fun x U=>by unfold px;rw[h x U]
 rw[this]
theorem Yt{T dD:aW Value}{x:Option Operand}(h:∀y∈x.toArray,a1 dD H y=a1 T H y):ho dD H x=ho T H x:=by
 cases x with
 |none=>rfl
 |some x=>simp only[ho];rw[h x (by simp)]
theorem E4(aq:aC.cc=S.cc)(h:∀x∈o.op.operands,a1 aC.T H x=a1 S.T H x):cj P call aE aC H o=cj P call aE S H o:=by
 have eQ:(∀cs b,o.op≠.select cs b)->fl P aC.T H o=fl P S.T H o:=fun hs=>afV hs h;unfold cj eF;obtain⟨dst,op,type,pos,after,guard⟩:=o;simp only at h eQ;cases op<;>simp only[Op.operands] at h<;>simp only
 case move x=>show gH (a1 aC.T H x) H=gH (a1 S.T H x) H;rw[h x (by simp)]
 case assign x=>show gH (a1 aC.T H x) H=gH (a1 S.T H x) H;rw[h x (by simp)]
 case pick c a b=>
  show yT P _ a b (a1 aC.T H c)=yT P _ a b (a1 S.T H c);rw[h c (by simp)];have aw:a1 aC.T H a=a1 S.T H a:=h a (by simp);have aR:a1 aC.T H b=a1 S.T H b:=h b (by simp);unfold yT ea.a1;simp only[aw,aR]
 case alloc e=>rfl
 case box e x=>show G8 P _ e (a1 aC.T H x)=G8 P _ e (a1 S.T H x);rw[h x (by simp)];rfl
 case build t ps=>show AR P _ t (k5 aC.T H ps.toList)=AR P _ t (k5 S.T H ps.toList);rw[YA fun x U=>h x (by simpa using U)];rfl
 case buildSlice t n ps=>show G9 P _ t n (k5 aC.T H ps.toList)=G9 P _ t n (k5 S.T H ps.toList);rw[YA fun x U=>h x (by simpa using U)];rfl
 case load t a=>show AU P _ t (a1 aC.T H a)=AU P _ t (a1 S.T H a);rw[h a (by simp)];rfl
 case store t a v=>show Dw P _ t (a1 aC.T H a) (a1 aC.T H v)=Dw P _ t (a1 S.T H a) (a1 S.T H v);rw[h a (by simp),h v (by simp)];rfl
 case nilCheck x=>show AX P _ (a1 aC.T H x)=AX P _ (a1 S.T H x);rw[h x (by simp)];rfl
 case binOp op t x y u=>
  have ao:=eQ (fun _ _=>by simp);show lX P _ op t (a1 aC.T H x) (a1 aC.T H y)=lX P _ op t (a1 S.T H x) (a1 S.T H y);rw[h x (by simp),h y (by simp)];have CQ:∀a b,tK P ⟨call,aE,aC,H,⟨dst,.binOp op t x y u,type,pos,after,guard⟩⟩ op t a b=tK P ⟨call,aE,S,H,⟨dst,.binOp op t x y u,type,pos,after,guard⟩⟩ op t a b:=fun a b=>by
   unfold tK ea.n9;simp only[ao];unfold xf;rfl
  unfold lX Q1 ea.n9;simp only[ao,CQ]
 case unOp op t x=>
  have ao:=eQ (fun _ _=>by simp);exact ao
 case convert s d x=>
  have ao:=eQ (fun _ _=>by simp);show xg P _ s d (a1 aC.T H x)=xg P _ s d (a1 S.T H x);rw[h x (by simp)];unfold xg ea.n9;simp only[ao]
 case makeInterface t x=>show AW P _ t (a1 aC.T H x) _=AW P _ t (a1 S.T H x) _;rw[h x (by simp)];rfl
 case makeFunc fn first captured=>
  show AV P _ fn (fy aC.T H first.toList) (fy aC.T H captured.toList)=AV P _ fn (fy S.T H first.toList) (fy S.T H captured.toList);rw[Hc fun x U=>h x (by simp at U;simp[U]),Hc fun x U=>h x (by simp at U;simp[U])];rfl
 case makeSlice t l c=>show G' P _ t (a1 aC.T H l) (a1 aC.T H c)=G' P _ t (a1 S.T H l) (a1 S.T H c);rw[h l (by simp),h c (by simp)];rfl
 case slice t x lo ak GO=>
  have ao:=eQ (fun _ _=>by simp);cases GO with
  |some m=>rfl
  |none=>
   show lY P _ t (a1 aC.T H x) (ho aC.T H lo) (ho aC.T H ak)=lY P _ t (a1 S.T H x) (ho S.T H lo) (ho S.T H ak);rw[h x (by simp),Yt (x:=lo) fun y au=>h y (by simp at au;simp[au]),Yt (x:=ak) fun y au=>h y (by simp at au;simp[au])];unfold lY ea.n9;simp only[ao]
 case fieldAddr t x f=>show AT P _ t f (a1 aC.T H x)=AT P _ t f (a1 S.T H x);rw[h x (by simp)];rfl
 case field t x f=>show Dv P _ f (a1 aC.T H x) _=Dv P _ f (a1 S.T H x) _;rw[h x (by simp)];rfl
 case indexAddr t x i=>show xh P _ t (a1 aC.T H x) (a1 aC.T H i)=xh P _ t (a1 S.T H x) (a1 S.T H i);rw[h x (by simp),h i (by simp)];rfl
 case index t x i=>show yS P _ (a1 aC.T H x) (a1 aC.T H i) _=yS P _ (a1 S.T H x) (a1 S.T H i) _;rw[h x (by simp),h i (by simp)];rfl
 case typeAssert x t a ok=>show AY P _ a ok (a1 aC.T H x)=AY P _ a ok (a1 S.T H x);rw[h x (by simp)];rfl
 case extract x c7=>show AS P _ c7 (a1 aC.T H x)=AS P _ c7 (a1 S.T H x);rw[h x (by simp)];rfl
 case call c=>
  have ao:=eQ (fun _ _=>by simp);have nf:fy aC.T H c.args.toList=fy S.T H c.args.toList:=Hc fun x U=>h x (by simp[Call.operands,DX.1 U]);show ju P _ c=ju P _ c;unfold ju;cases aD:c.callee with
  |builtin b=>
   simp only
   unfold pY;simp only[nf,ao]
  |value f=>
   have aA:a1 aC.T H f=a1 S.T H f:=h f (by simp[Call.operands,aD]);simp only
   unfold lK;simp only[nf,aD,aA]
  |invoke r m=>
   have aA:a1 aC.T H r=a1 S.T H r:=h r (by simp[Call.operands,aD]);simp only
   unfold lK;simp only[nf,aD,aA]
 case defer c=>
  have nf:fy aC.T H c.args.toList=fy S.T H c.args.toList:=Hc fun x U=>h x (by simp[Call.operands,DX.1 U]);show vk P _ c=vk P _ c;unfold vk E1;simp only[aq,nf];cases aD:c.callee with
  |builtin b=>rfl
  |value f=>
   have aA:a1 aC.T H f=a1 S.T H f:=h f (by simp[Call.operands,aD]);simp only[aA]
  |invoke r m=>
   have aA:a1 aC.T H r=a1 S.T H r:=h r (by simp[Call.operands,aD]);simp only[aA]
 case panic x=>show Ha P _ (a1 aC.T H x)=Ha P _ (a1 S.T H x);rw[h x (by simp)];rfl
end
end
end Go.Cre
namespace Go.Cre
noncomputable section
open Go.RowKit
section
variable {P:Program}{H H':an}{S aC:aV}{o:Oper}{call:eo}{aE:gU}{v:Value}
theorem pF{x:Option Value}(he:gH x H=some (.val v H')):H'=H:=by
 cases x with
 |none=>cases he
 |some x=>have he:some (cE.val x H)=some (.val v H'):=he;injection he with he;injection he with _ he;exact he.symm
theorem afW{T:aW Value}(he:fl P T H o=some (.val v H')):H'=H:=by
 unfold fl at he;cases ab:fy T H o.op.operands.toList with
 |none=>rw[ab] at he;cases he
 |some vs=>
  rw[ab] at he;cases ad:vs.all plain with
  |false=>simp only[ad] at he;cases he
  |true=>
   simp only[ad,b4] at he;cases aL:e0 P (execOp (px T H) o) with
   |none=>rw[aL] at he;cases he
   |some r=>
    rw[aL] at he;cases r with
    |value u=>
     simp only at he;cases a6:plain u with
     |false=>rw[a6] at he;cases he
     |true=>rw[a6] at he;injection he with he;injection he with _ he;exact he.symm
    |skip=>injection he with he;cases he
    |_=>cases he
theorem Yv{a b:Option cE}(aF:a=some (.val v H')->H'=H)(ai:b=some (.val v H')->H'=H)(he:orElse a b=some (.val v H')):H'=H:=by
 cases a with
 |none=>exact ai he
 |some a=>exact aF he
theorem K9{n:Int}{k:IntKind}(he:qT n (pD H k)=some (.val v H')):H'=H:=by
 rcases n with(_|m)|(_|m)<;>(injection he with he;injection he with _ he;exact he.symm)
theorem aou{b:Bool}(he:xp H b=some (.val v H')):H'=H:=by
 cases b<;>(injection he with he;injection he with _ he;exact he.symm)
theorem acL{b:Bool}{u:Value}(h:(bif b then none else some (cE.val u H))=some (.val v H')):H'=H:=by
 cases b<;>simp at h;exact h.2.symm
theorem UC(aD:C7 o.op=false)(aF:yC o.op=false)(he:cj P call aE S H o=some (.val v H'))(kU:H'.ay=H.ay):H'=H:=by
 unfold cj eF at he;obtain⟨dst,op,type,pos,after,guard⟩:=o;have eQ:∀o',fl P S.T H o'=some (.val v H')->H'=H:=fun o' q=>afW q;cases op<;>simp only[C7,yC] at aD aF<;>simp only at he
 case move x=>exact pF (x:=a1 S.T H x) he
 case assign x=>exact pF (x:=a1 S.T H x) he
 case pick c a b=>
  have he:yT P _ a b (a1 S.T H c)=_:=he;unfold yT at he;split at he
  ·exact pF he
  ·exact pF he
  ·cases he
 case alloc=>cases aF
 case box=>cases aF
 case build t ps=>
  have he:AR P _ t (k5 S.T H ps.toList)=_:=he;unfold AR at he;split at he
  ·exact pF he
  ·cases he
 case buildSlice=>cases aF
 case load t a=>
  have he:AU P _ t (a1 S.T H a)=_:=he;unfold AU at he;split at he
  ·exact pF he
  ·cases he
 case nilCheck x=>
  have he:AX P _ (a1 S.T H x)=_:=he;unfold AX at he;split at he<;>first|(injection he with he;injection he with _ he;exact he.symm)|cases he
 case binOp op t x y u=>
  have he:lX P _ op t (a1 S.T H x) (a1 S.T H y)=_:=he;have CQ:∀X:ea,X.H=H->X.S=S->∀a b,tK P X op t a b=some (.val v H')->H'=H:=fun X dr aj a b q=>by
   unfold tK at q;refine Yv (fun q=>?_) (fun q=>?_) q
   ·unfold ea.n9 at q;rw[dr,aj] at q;exact eQ _ q
   ·unfold xf at q;split at q
    ·split at q
     ·injection q with q;injection q with _ q;rw[<-q,dr]
     ·cases q
    ·split at q
     ·injection q with q;injection q with _ q;rw[<-q,dr]
     ·cases q
    ·cases q
  unfold lX at he;split at he
  ·unfold Q1 at he;rename_i k a l b _ _;cases hk:lT k l with
   |false=>rw[hk,da] at he;exact CQ _ (by rfl) (by rfl) _ _ he
   |true=>
    rw[hk,b4] at he;unfold iY at he;split at he<;>first|exact K9 he|exact aou he|exact eQ _ he
  ·exact CQ _ (by rfl) (by rfl) _ _ he
  ·cases he
 case unOp op t x=>exact eQ _ he
 case convert s d x=>
  have he:xg P _ s d (a1 S.T H x)=_:=he;unfold xg at he;split at he
  ·cases he
  ·rename_i y3 _;cases ar:wg P H s d y3 with
   |none=>rw[ar] at he;exact eQ _ he
   |some p=>
    obtain⟨u,H1⟩:=p;rw[ar] at he;have he:some (cE.val u H1)=some (.val v H'):=he;injection he with he;injection he with _ he;subst he
    have:=af1 ar;omega
  ·exact pF he
  ·exact pF he
  ·split at he
   ·exact K9 he
   ·exact eQ _ he
  ·exact eQ _ he
 case makeInterface t x=>
  have he:AW P _ t (a1 S.T H x) (P.underlying t)=_:=he;unfold AW at he;split at he<;>first|(injection he with he;injection he with _ he;exact he.symm)|cases he
 case makeFunc fn first captured=>
  have he:AV P _ fn (fy S.T H first.toList) (fy S.T H captured.toList)=_:=he;unfold AV at he;split at he
  ·split at he
   ·cases he
   ·injection he with he;injection he with _ he;exact he.symm
  ·cases he
 case makeMap=>cases aF
 case makeSlice=>cases aF
 case slice t x lo ak GO=>
  cases GO with
  |some m=>cases he
  |none=>
   have he:lY P _ t (a1 S.T H x) (ho S.T H lo) (ho S.T H ak)=_:=he;unfold lY at he;split at he
   ·exact Yv (fun q=>pF q) (fun q=>eQ _ q) he
   ·cases he
 case fieldAddr t x f=>
  have he:AT P _ t f (a1 S.T H x)=_:=he;unfold AT at he;split at he
  ·exact pF he
  ·cases he
 case field t x f=>
  have he:Dv P _ f (a1 S.T H x) (P.underlying t)=_:=he;unfold Dv at he;split at he
  ·split at he
   ·exact pF he
   ·cases he
  ·cases he
 case indexAddr t x i=>
  have he:xh P _ t (a1 S.T H x) (a1 S.T H i)=_:=he;unfold xh at he;split at he
  ·exact pF he
  ·cases he
 case index t x i=>
  have he:yS P _ (a1 S.T H x) (a1 S.T H i) (P.underlying t)=_:=he;unfold yS at he;split at he
  ·split at he
   ·exact pF he
   ·cases he
  ·split at he
   ·split at he
    ·exact K9 he
    ·cases he
   ·cases he
  ·cases he
 case typeAssert x t a ok=>
  have he:AY P _ a ok (a1 S.T H x)=_:=he;unfold AY at he;split at he
  ·exact pF he
  ·cases he
 case extract x c7=>
  have he:AS P _ c7 (a1 S.T H x)=_:=he;unfold AS at he;split at he
  ·exact pF he
  ·cases he
 case call c=>
  have he:ju P _ c=_:=he;obtain⟨callee,args,argTypes⟩:=c;unfold ju at he;cases callee with
  |value f=>cases aD
  |invoke r m=>cases aD
  |builtin b=>
   simp only at he aD;unfold pY at he;split at he
   ·cases he
   ·cases b<;>simp only at aD<;>first|cases aD|skip
    all_goals simp only at he
    all_goals first
     |exact eQ _ he
     |skip
    all_goals (
     split at he
     all_goals first
      |contradiction
      |exact eQ _ he
      |(cases he;done)
      |(cases he;rfl)
      |skip
     all_goals (
      split at he
      all_goals first
       |contradiction
       |exact eQ _ he
       |(cases he;done)
       |(cases he;rfl)
       |exact acL he
       |(split at he<;>first|(cases he;done)|exact K9 he)
       |(split at he<;>first|(cases he;done)|(cases he;rfl))))
 all_goals first|(cases aD;done)|(cases he;done)
end
end
end Go.Cre
namespace Go.Cre
noncomputable section
open Go.RowKit
theorem aW.Fa{α:Type}(t:aW α):∀(p:Nat->Bool) (n:Nat),(t.fF p).get n=if p n then t.get n else none:=by
 induction t with
 |leaf=>intro p n;simp[aW.fF,aW.UX]
 |node v l r wY wZ=>
  intro p n;cases n with
  |zero=>simp[aW.fF,aW.Fb]
  |succ m=>
   simp only[aW.fF,aW.qV];by_cases h:m % 2=0
   ·rw[a2 h,a2 h,wY];have:2*(m / 2)+1=m+1:=by omega
    rw[this]
   ·rw[aZ h,aZ h,wZ];have:2*(m / 2)+2=m+1:=by omega
    rw[this]
theorem aW.YS{α:Type}{a:α}{t:aW α}:∀{k7:aW α} {n:Nat} (p:Nat->Bool),aW.put a t n=some k7->∃apW,aW.put a (t.fF p) n=some apW:=by
 induction t with
 |leaf=>
  intro k7 n p h;exact⟨k7,h⟩
 |node v l r wY wZ=>
  intro k7 n p h;cases n with
  |zero=>exact⟨_,rfl⟩
  |succ m=>
   simp only[aW.fF];rw[aW.K4] at h ⊢;by_cases hm:m % 2=0
   ·rw[a2 hm] at h ⊢;cases ap:aW.put a l (m / 2) with
    |none=>rw[ap] at h;cases h
    |some l'=>obtain⟨Ki,e⟩:=wY (fun k=>p (2*k+1)) ap;rw[e];exact⟨_,rfl⟩
   ·rw[aZ hm] at h ⊢;cases aq:aW.put a r (m / 2) with
    |none=>rw[aq] at h;cases h
    |some ch=>obtain⟨auD,e⟩:=wZ (fun k=>p (2*k+2)) aq;rw[e];exact⟨_,rfl⟩
theorem aV.put_eq{S aC:aV}{dst:Option Tmp}{v:Value}(he:S.put dst v=some aC):
 aC.n=S.n/\aC.ds=S.ds/\aC.bG=S.bG/\aC.bd=S.bd/\aC.cc=S.cc/\∀t,aC.T.get t=if dst=some t then some v else S.T.get t:=by
 cases dst with
 |none=>
  have he:some S=some aC:=he;injection he with he;subst he
  exact⟨rfl,rfl,rfl,rfl,rfl,fun t=>by simp⟩
 |some d=>
  obtain⟨T,n,fx,bG,bd,cc⟩:=S;have he:Bool.rec (motive:=fun _=>Option aV) none (aV.pz n fx bG bd cc (aW.put v T d)) (Nat.ble (Nat.succ d) n)=some aC:=he;cases ai:Nat.ble (Nat.succ d) n with
  |false=>rw[ai] at he;cases he
  |true=>
   rw[ai] at he;have he:aV.pz n fx bG bd cc (aW.put v T d)=some aC:=he;cases ao:aW.put v T d with
   |none=>rw[ao] at he;cases he
   |some dD=>
    rw[ao] at he;have he:some (aV.mk dD n fx bG bd cc)=some aC:=he;injection he with he;subst he
    refine⟨rfl,rfl,rfl,rfl,rfl,fun t=>?_⟩;show dD.get t=_;rw[aW.get_put ao];by_cases h:t=d
    ·subst h;simp
    ·rw[aZ h,aZ (fun q=>h (by injection q with q;exact q.symm))]
theorem aV.anQ{S aC:aV}{dst:Option Tmp}{v:Value}(p:Nat->Bool)(he:S.put dst v=some aC):∃o1,(S.only p).put dst v=some o1:=by
 cases dst with
 |none=>exact⟨_,rfl⟩
 |some d=>
  obtain⟨T,n,fx,bG,bd,cc⟩:=S;have he:Bool.rec (motive:=fun _=>Option aV) none (aV.pz n fx bG bd cc (aW.put v T d)) (Nat.ble (Nat.succ d) n)=some aC:=he;show ∃o1,Bool.rec (motive:=fun _=>Option aV) none (aV.pz n fx bG bd cc (aW.put v (T.fF p) d)) (Nat.ble (Nat.succ d) n)=some o1;cases ai:Nat.ble (Nat.succ d) n with
  |false=>rw[ai] at he;cases he
  |true=>
   rw[ai] at he;have he:aV.pz n fx bG bd cc (aW.put v T d)=some aC:=he;cases ao:aW.put v T d with
   |none=>rw[ao] at he;cases he
   |some dD=>
    obtain⟨ar3,e⟩:=aW.YS p ao;rw[e];exact⟨_,rfl⟩
section
variable {P:Program}{H:an}{T dD:aW Value}{ops:List Oper}{o:Oper}
theorem Xt{t:Tmp}(h:Operand.tmp t∈o.op.operands):t∈looks ops o:=by
 unfold looks;exact og _ (List.mem_filterMap.2 ⟨.tmp t,by simpa using h,rfl⟩)
theorem Hb(h:∀t∈looks ops o,dD.get t=T.get t):∀x∈o.op.operands,a1 dD H x=a1 T H x:=fun x U=>by
 cases x with
 |tmp t=>exact h t (Xt U)
 |const c=>rfl
 |global g=>rfl
 |func f=>rfl
theorem am3(h:∀t∈looks ops o,dD.get t=T.get t):∀x∈o.op.operands,qm dD x=qm T x:=fun x U=>by
 cases x with
 |tmp t=>exact h t (Xt U)
 |const c=>rfl
 |global g=>rfl
 |func f=>rfl
theorem rV(h:∀t∈looks ops o,dD.get t=T.get t):fa ops dD o=fa ops T o:=by
 unfold fa;cases ax:o.guard with
 |none=>rfl
 |some q=>
  obtain⟨j,want⟩:=q;show uN ops dD (j,want)=uN ops T (j,want);unfold uN;simp only
  cases az:nth ops j with
  |none=>rfl
  |some p=>
   simp only
   cases al:p.dst with
   |none=>rfl
   |some d=>
    simp only
    rw[h d (by unfold looks;rw[ax];simp only[az,al];exact iI _ (by simp))]
theorem ani:∀{l:List (Nat×Operand)},(∀x∈l.map (·.2),qm dD x=qm T x)->so dD l=so T l:=by
 intro l;induction l with
 |nil=>intro _;rfl
 |cons x l aP=>
  intro h;obtain⟨i,x⟩:=x;simp only[so];rw[h x (by simp),aP fun y au=>h y (by simp at au ⊢;exact .inr au)]
theorem Mw(h:∀t∈looks ops o,dD.get t=T.get t):m2 P dD o.op=m2 P T o.op:=by
 have h:=am3 h;cases ah:o.op<;>rw[ah] at h<;>simp only[Op.operands] at h<;>simp only[m2]
 case box e x=>rw[h x (by simp)]
 case buildSlice t n ps=>rw[ani fun x U=>h x (by simpa using U)]
 case makeSlice t l c=>rw[h l (by simp),h c (by simp)]
 case makeMap t r=>cases r<;>rfl
end
theorem acx{f:Value->Value->Bool}(aA:∀x y,f x y=true->x=y):∀{l m:List Value},ks f l m=true->l=m:=by
 intro l;induction l with
 |nil=>intro m h;cases m with
  |nil=>rfl
  |cons=>cases h
 |cons x l aP=>intro m h;cases m with
  |nil=>cases h
  |cons y m=>
   simp only[ks,gg] at h;rw[aA x y h.1,aP h.2]
theorem Tv{a b:Option Addr}(h:addrEq a b=true):a=b:=by
 unfold addrEq at h;split at h
 ·rfl
 ·simp only[gg] at h;rw[eb h.1,eb h.2]
 ·rfl
 ·cases h
theorem aq8:∀{n:Nat} {a b:Value},eJ n a b=true->a=b:=by
 intro n;induction n with
 |zero=>intro a b h;cases h
 |succ n aP=>
  intro a b h;have arr:∀{x y:Array Value},ks (eJ n) x.toList y.toList=true->x=y:=fun q=>qz (acx (fun _ _ z=>aP z) q);unfold eJ at h;split at h
  ·rename_i a b;cases a<;>cases b<;>first|rfl|cases h
  ·simp only[gg] at h;rw[W0 h.1];have:=h.2;rw[C4] at this;rw[eq_of_beq this]
  ·rename_i a b;have:=G3 h;obtain⟨⟨x⟩⟩:=a;obtain⟨⟨y⟩⟩:=b;simp at this;rw[this]
  ·rw[Tv h]
  ·simp only[gg] at h;rw[Tv h.1.1,eb h.1.2,eb h.2]
  ·rename_i a b;cases a<;>cases b<;>simp only[X4] at h<;>first|rfl|cases h|(rw[eb h])
  ·rfl
  ·rfl
  ·simp only[gg] at h;rw[eb h.1,aP h.2]
  ·rw[arr h]
  ·rw[arr h]
  ·simp only[gg] at h;rename_i f a b g c d;have:f=g:=by
    have:=h.1.1;unfold NL at this;split at this
    ·rw[eb this]
    ·cases this
   rw[this,arr h.1.2,arr h.2]
  ·cases h
section
variable {P:Program}{B:Nat->Prop}{w0 w:World}{μ:bL}{H H':an}
theorem bX.ano(h:bX P B w0 μ H w){a:Nat}{b:e3}(az:H.new b=some (a,H'))(ah:j1 (some b)=false):bX P B w0 μ H' w:=by
 obtain⟨rfl,aw,aR,cf,dK,cr⟩:=an.oG az;have dH:∀x L,μ x=some L->H'.mem.get x=H.mem.get x:=fun x L U=>by
  have:=h.lt x L U;rw[cr,aZ (by omega)]
 refine⟨h.below,h.nK,?_,?_,?_,?_,?_,?_,?_,?_,?_,?_⟩
 ·intro x L U;obtain⟨b',o',ab,ad,aL⟩:=h.fS x L U;exact⟨b',o',by rw[dH x L U];exact ab,ad,aL⟩
 ·intro x y ht hz ew U au n0;rcases h.sep x y ht hz ew U au n0 with d|d|⟨f,l,⟨c,e,z,s,q⟩,⟨c',bC,g3,cQ,dj⟩,ap,cL,eA⟩
  ·exact .inl (by rw[dH x ht U];exact d)
  ·exact .inr (.inl (by rw[dH y hz au];exact d))
  ·exact .inr (.inr ⟨f,l,⟨c,e,z,s,by rw[dH x ht U];exact q⟩,⟨c',bC,g3,cQ,by rw[dH y hz au];exact dj⟩,by rw[aR];exact ap,cL,eA⟩)
 ·intro x L U;have:=h.lt x L U;omega
 ·intro x L U ax;exact h.own x L U (by omega)
 ·intro x L U ax dP;exact h.new x L U (by omega) (by rw[dH x L U] at dP;exact dP)
 ·intro g c e o f z s ax hm;have Ac:g≠H.ay:=by have:=h.kc;omega
  rw[cr,aZ Ac] at hm;exact h.te g c e o f z s (by omega) hm
 ·have:=h.kc;omega
 ·intro x c e f z s hm;rw[cr] at hm;split at hm
  ·injection hm with hm;rw[hm] at ah;simp[j1] at ah
  ·rw[cf];exact h.qS x c e f z s hm
 ·intro f l x ap U;rw[aR] at ap;obtain⟨a,d⟩:=h.kR f l x ap U;refine⟨by omega,?_⟩;rw[cr,aZ (by omega)];exact d
 ·intro f l ap;rw[aR] at ap;refine(h.uL f l ap).imp_of_mem ?_;intro x y U au ew c e f1 z s c' bC f' g3 cQ q dj;have gb:=(h.kR f l x ap U).1;have yz:=(h.kR f l y ap au).1;rw[cr,aZ (by omega)] at q dj;exact ew c e _ z s c' bC f' g3 cQ q dj
theorem bX.fill(h:bX P B w0 μ H w){a:Nat}{b:e3}{o:Obj}{L:Loc}(hm:μ a=none)(b9:a<H.ay)(ax:H.bz<=a)(fZ:H.mem.get a=some b)(aq:L.r=w.heap.size)(ai:jx P μ L b o):
 bX P B w0 (μ.put a L) H (w.alloc o)/\Ext μ (μ.put a L):=by
 have kf:Ext μ (μ.put a L):=fun id bR U=>by
  by_cases e:id=a
  ·subst e;rw[hm] at U;cases U
  ·rw[bL.tO _ _ e];exact U
 have dH:∀x bR,(μ.put a L) x=some bR->x≠a->μ x=some bR:=fun x bR q b=>by rwa [bL.tO _ _ b] at q
 have O4:∀x bR,μ x=some bR->bR.r<w.heap.size:=fun x bR U=>by
  obtain⟨b',o',_,ah,_⟩:=h.fS x bR U;rcases hL bR.r w.heap.size with cT|cT
  ·exact cT
  ·rw[sE cT] at ah;cases ah
 refine⟨⟨h.below.alloc h.nK o,?_,?_,?_,?_,?_,?_,?_,h.kc,h.qS,h.kR,h.uL⟩,kf⟩
 ·intro k hk;have:=h.nK k hk;show k<(w.heap.push o).size;rw[Sr];omega
 ·intro x bR U;by_cases c1:x=a
  ·subst c1;rw[bL.jP] at U;injection U with U;subst U
   exact⟨b,o,fZ,by rw[CC,aq];simp,ai.mono kf⟩
  ·have gb:=dH x bR U c1;obtain⟨b',o',ab,ad,aL⟩:=h.fS x bR gb;exact⟨b',o',ab,by rw[CC,aZ (by have:=O4 x bR gb;omega)];exact ad,aL.mono kf⟩
 ·intro x y ht hz ew U au n0;by_cases c1:x=a
  ·subst c1;rw[bL.jP] at U;injection U with U;subst U
   have:=O4 y hz (dH y hz au (Ne.symm ew));omega
  ·by_cases ky:y=a
   ·subst ky;rw[bL.jP] at au;injection au with au;subst au
    have:=O4 x ht (dH x ht U c1);omega
   ·exact h.sep x y ht hz ew (dH x ht U c1) (dH y hz au ky) n0
 ·intro x bR U;by_cases c1:x=a
  ·omega
  ·exact h.lt x bR (dH x bR U c1)
 ·intro x bR U FC;have c1:x≠a:=by omega
  exact h.own x bR (dH x bR U c1) FC
 ·intro x bR U FC dP;by_cases c1:x=a
  ·subst c1;rw[bL.jP] at U;injection U with U;subst U
   rw[aq];exact fun q=>BM _ (h.nK _ q)
  ·exact h.new x bR (dH x bR U c1) FC dP
 ·intro g c e o f z s FC O5;obtain⟨bR,a4⟩:=h.te g c e o f z s FC O5;exact⟨bR,kf _ _ a4⟩
theorem Rn{cells cells':List Value}{elem:TypeId}(aD:bT μ cells cells')(r:Nat):jx P μ ⟨r,cells.length,P.cellsOf elem⟩ (.row cells elem false 0 0 false) (.cells cells'.toArray elem):=
 ⟨rfl,by simp[aD.1],rfl,bF _,fun _=>rfl,fun i v v' a b=>aD.2 i v v' a (by simpa using b),fun off _ ab ad=>by simp at ad,fun _=>.inl rfl⟩
def iE.ok:iE->Bool
 |.A7 _ c=>decide (c<cG)
 |_=>true
theorem iE.rel{ei:iE}(h:ei.ok=true){a:Nat}{L:Loc}(hm:μ a=some L):bg μ (ei.at a) (ei.at L.r):=by
 cases ei with
 |ptr=>exact .ptr a 0 L hm
 |A7 l c=>exact .nu a 0 l c L hm (G3 h)
 |map=>exact .map a L hm
def LJ(P:Program)(μ:bL)(w:World)(s:Sem Value)(b:e3)(ei:iE):Prop:=
 ∃jd N sz,s.run P w=.ok (ei.at w.heap.size) (w.alloc jd)/\jx P μ ⟨w.heap.size,N,sz⟩ b jd/\j1 (some b)=false/\ei.ok=true
theorem TB{elem:TypeId}{v v':Value}{b:e3}{ei:iE}(ar:bg μ v v')(he:zz elem v=some (b,ei))(w:World):LJ P μ w (Instr.box elem v') b ei:=by
 unfold zz at he;cases ah:v.cells.toList.all eV with
 |false=>rw[ah] at he;cases he
 |true=>
  rw[ah,b4] at he;simp only[cl,dm] at he;obtain⟨rfl,rfl⟩:=he;refine⟨_,_,_,?_,Rn ar.cells _,rfl,rfl⟩;simp[Instr.box,newVar,newRow,newObj,Sem.run,iE.at]
theorem acC{t:TypeId}{l l' c c':Value}{b:e3}{ei:iE}(ap:bg μ l l')(aD:bg μ c c')(he:Ep P t l c=some (b,ei))(w:World):LJ P μ w (Instr.makeSlice t l' c') b ei:=by
 unfold Ep at he;cases l with
 |int aU l=>
  cases c with
  |int aQ c=>
   obtain rfl:=ap.qf;obtain rfl:=aD.qf;cases hu:P.underlying t with
   |none=>rw[hu] at he;simp at he
   |some d=>
    rw[hu] at he;cases d with
    |slice elem=>
     simp only at he;cases aG:gX P elem with
     |none=>rw[aG] at he;simp at he
     |some z=>
      rw[aG] at he;cases hF:uB P elem with
      |none=>rw[hF] at he;simp at he
      |some iL=>
       rw[hF] at he;cases hs:ey P elem with
       |none=>rw[hs] at he;simp at he
       |some sz=>
        rw[hs] at he;simp only at he;cases tl:qe c 1000000 with
        |none=>rw[tl] at he;simp at he
        |some kL=>
         rw[tl] at he;cases dc:qe l 1000000 with
         |none=>rw[dc] at he;simp at he
         |some fG=>
          rw[dc] at he;simp only at he;cases wD:(Nat.ble fG kL&&Nat.ble iL 1000000&&Nat.beq z.cells.toList.length sz&&z.cells.toList.all eV&&plain z) with
          |false=>rw[wD] at he;simp at he
          |true=>
           rw[wD,b4] at he;simp only[gg] at wD;obtain⟨⟨⟨⟨aK,aH⟩,bJ⟩,dU⟩,fP⟩:=wD;have aK:=hv aK;have aH:=hv aH;have bJ:=eb bJ;obtain⟨rfl,gQ⟩:=C6 tl;obtain⟨rfl,ni⟩:=C6 dc;simp only[cl,dm] at he;obtain⟨rfl,rfl⟩:=he;have sd:bT μ z.cells.toList z.cells.toList:=(py fP).cells;have wC:bT μ (fp z.cells.toList kL) (fp z.cells.toList kL):=bT.DH fun v ar=>by
               exact HU (p:=fun v=>bg μ v v) ar (fun u hu=>by
                obtain⟨i,ak⟩:=zm.1 hu;exact sd.2 i u u ak ak)
           refine⟨_,_,_,?_,Rn wC _,rfl,g7 (by have:(1000000:Nat)<cG:=by decide
                                              omega)⟩
           obtain⟨i,ak,rfl⟩:=ML hF
           have ri:i.zero=some z:=by simpa[gX,ak] using aG
           have r8:i.size=sz:=by simpa[ey,ak] using hs
           have hmul:i.bytes*kL<=1000000*1000000:=rI aH gQ;have gl:=HV z.cells.toList kL;have gG:=run_make (P:=P) w t elem i z hu ak ri aU aQ (fG:Int) (kL:Int) (by omega) (by omega) (by
               have:(i.bytes:Int)*(kL:Int)=((i.bytes*kL:Nat):Int):=by simp
               rw[this];omega) (by omega)
           rw[gG];simp only[h9,iE.at];congr 3
           rw[<-gl];simp[madeCells,r8,<-bJ]
    |_=>simp at he
  |_=>simp at he
 |_=>simp at he
theorem acA{t:TypeId}{len:Nat}{parts mm:List (Nat×Value)}{b:e3}{ei:iE}(ao:vM μ parts mm)(he:Eo P t len parts=some (b,ei))(w:World):LJ P μ w (Instr.buildSlice t len mm.toArray) b ei:=by
 unfold Eo at he;cases hu:P.underlying t with
 |none=>rw[hu] at he;simp at he
 |some d=>
  rw[hu] at he;cases d with
  |slice elem=>
   simp only at he;cases hs:ey P elem with
   |none=>rw[hs] at he;simp at he
   |some sz=>
    rw[hs] at he;cases aG:gX P elem with
    |none=>rw[aG] at he;simp at he
    |some z=>
     rw[aG] at he;simp only at he;cases aD:(Nat.ble len 100000&&Nat.ble (len*sz) 100000&&plain z&&Nat.beq z.cells.toList.length sz) with
     |false=>rw[aD] at he;simp at he
     |true=>
      rw[aD,b4] at he;simp only[gg] at aD;obtain⟨⟨⟨hT,aK⟩,aH⟩,bJ⟩:=aD;have hT:=hv hT;have aK:=hv aK;have bJ:=eb bJ;cases aA:m8 (fun i=>some (i*sz,sz)) (fp z.cells.toList len) parts with
      |none=>rw[aA] at he;simp at he
      |some cells=>
       rw[aA] at he;simp only at he;cases ah:cells.all eV with
       |false=>rw[ah] at he;simp at he
       |true=>
        rw[ah,b4] at he;simp only[cl,dm] at he;obtain⟨rfl,rfl⟩:=he;have sd:bT μ z.cells.toList z.cells.toList:=(py aH).cells;have wC:bT μ (fp z.cells.toList len) (fp z.cells.toList len):=bT.DH fun v ar=>
         HU (p:=fun v=>bg μ v v) ar (fun u hu=>by
           obtain⟨i,ak⟩:=zm.1 hu;exact sd.2 i u u ak ak)
        obtain⟨ch,a,b⟩:=I' ao wC aA
        refine⟨_,_,_,?_,Rn b _,rfl,g7 (by have:(100000:Nat)<cG:=by decide
                                          omega)⟩
        have gl:=HV z.cells.toList len;have aka:z.cells.size=sz:=by simpa using bJ
        have Ou:¬(16777216<len*sz):=by omega
        rw[bJ] at gl;simp only[aa'] at gl;by_cases aN:len*sz=0
        ·have wI:fp z.cells.toList len=[]:=zk.1 (by rw[Sk,bJ];exact aN)
         rw[wI] at a;have bO:Instr.fill (fun i=>some (i*sz,sz)) (Array.map (fun _=>(default:Value)) (Array.range 0)) mm=some ch.toArray:=by
          have jX:Array.map (fun _:Nat=>(default:Value)) (Array.range 0)=#[]:=by simp
          rw[jX];exact a
         simp[Instr.buildSlice,eE hu,kk hs,aN,bO,newRow,newObj,Sem.run,iE.at]
        ·have bO:Instr.fill (fun i=>some (i*sz,sz)) ((Array.range (len*sz)).map fun i=>z.cells[i % z.cells.size]!) mm=some ch.toArray:=by rw[gl];exact a
         simp[Instr.buildSlice,eE hu,kk hs,Ou,aN,vx aG,bO,newRow,newObj,Sem.run,iE.at]
  |_=>simp at he
theorem KU{T:aW Value}{n:Nat}{tmps:Array Value}(aJ:jU μ T n tmps){x:Operand}{v:Value}(he:qm T x=some v):bg μ v (cU tmps x):=by
 cases x with
 |tmp t=>exact aJ.2 t v he
 |const c=>
  have he:(bif plain c then some c else none)=some v:=he;cases ao:plain c with
  |false=>rw[ao] at he;simp at he
  |true=>rw[ao] at he;simp at he;subst he;exact py ao
 |global g=>cases he
 |func f=>
  have he:some (Value.func (.func f) #[] #[])=some v:=he;injection he with he;subst he
  exact .func _ _ _ _ _ rfl rfl rfl (fun i v v' q=>by simp at q) (fun i v v' q=>by simp at q)
theorem ank{T:aW Value}{n:Nat}{tmps:Array Value}(aJ:jU μ T n tmps):∀{l:List (Nat×Operand)} {ps:List (Nat×Value)},so T l=some ps->vM μ ps (l.map fun(i,x)=>(i,cU tmps x)):=by
 intro l;induction l with
 |nil=>intro ps h;simp[so] at h;subst h;exact⟨rfl,fun i p hG q=>by simp at q⟩
 |cons x l aP=>
  intro ps h;obtain⟨i,x⟩:=x;simp only[so] at h;cases ab:qm T x with
  |none=>rw[ab] at h;cases h
  |some v=>
   rw[ab] at h;cases ad:so T l with
   |none=>rw[ad] at h;cases h
   |some r=>
    rw[ad] at h;injection h with h;subst h
    have:=aP ad;refine⟨by simp[this.1],fun j p hG q dj=>?_⟩;cases j with
    |zero=>simp at q dj;subst q;subst dj;exact⟨rfl,KU aJ ab⟩
    |succ j=>exact this.2 j p hG (by simpa using q) (by simpa using dj)
theorem Xq{t:TypeId}{r:Operand}{b:e3}{ei:iE}(he:Gu P t r=some (b,ei)):b=.dead/\ei=.map/\r=.const (.int .i64 (.ofNat 0))/\∃key el,P.underlying t=some (.map key el):=by
 unfold Gu at he;split at he
 ·cases hu:P.underlying t with
  |none=>rw[hu] at he;cases he
  |some d=>
   rw[hu] at he;cases d with
   |map a c=>
    simp only[cl,dm] at he;exact⟨he.1.symm,he.2.symm,rfl,a,c,rfl⟩
   |_=>cases he
 ·cases he
theorem acD{T:aW Value}{n:Nat}{tmps:Array Value}{o:Oper}{b:e3}{ei:iE}(aJ:jU μ T n tmps)(he:m2 P T o.op=some (b,ei))(w:World):
 ∃jd N sz,(execOp (cU tmps) o).run P w=.ok (.value (ei.at w.heap.size)) (w.alloc jd)/\jx P μ ⟨w.heap.size,N,sz⟩ b jd/\j1 (some b)=false/\ei.ok=true:=by
 cases ah:o.op<;>rw[ah] at he<;>simp only[m2] at he
 case alloc elem=>
  cases aG:gX P elem with
  |none=>rw[aG] at he;cases he
  |some z=>
   rw[aG] at he;cases ao:plain z with
   |false=>simp only[ao] at he;cases he
   |true=>
    simp only[ao,b4] at he;obtain⟨jd,N,sz,a7,bc,cu,c9⟩:=TB (P:=P) (py (μ:=μ) ao) he w;refine⟨jd,N,sz,?_,bc,cu,c9⟩;have:(Instr.alloc elem true (.tuple #[])).run P w=.ok (ei.at w.heap.size) (w.alloc jd):=by simpa[Instr.alloc,Instr.box,vx aG] using a7
    simp[execOp,ah,this]
 case box elem x=>
  cases U:qm T x with
  |none=>rw[U] at he;cases he
  |some v=>
   rw[U] at he;obtain⟨jd,N,sz,a7,bc,cu,c9⟩:=TB (P:=P) (KU aJ U) he w;exact⟨jd,N,sz,by simp[execOp,ah,a7],bc,cu,c9⟩
 case buildSlice t len parts=>
  cases U:so T parts.toList with
  |none=>rw[U] at he;cases he
  |some ps=>
   rw[U] at he;obtain⟨jd,N,sz,a7,bc,cu,c9⟩:=acA (P:=P) (ank aJ U) he w;have aw:(parts.toList.map fun(i,x)=>(i,cU tmps x)).toArray=parts.map fun(i,x)=>(i,cU tmps x):=by apply qz;simp
   rw[aw] at a7;exact⟨jd,N,sz,by simp[execOp,ah,a7],bc,cu,c9⟩
 case makeMap t r=>
  cases r with
  |some r=>
   obtain⟨rfl,rfl,rfl,key,el,hu⟩:=Xq (show Gu P t r=some (b,ei) from he);exact⟨.map #[] 0,0,0,by simp[execOp,ah,Instr.makeMap,newObj,Sem.run,iE.at,eE hu,cU,asInt,asIntOf],trivial,rfl,rfl⟩
  |none=>
   simp only[cl,dm] at he;obtain⟨rfl,rfl⟩:=he;exact⟨.map #[] 0,0,0,by simp[execOp,ah,Instr.makeMap,newObj,Sem.run,iE.at],zh.nil _,rfl,rfl⟩
 case makeSlice t l c=>
  cases ab:qm T l with
  |none=>rw[ab] at he;cases he
  |some Gz=>
   cases ad:qm T c with
   |none=>rw[ab,ad] at he;cases he
   |some o5=>
    rw[ab,ad] at he;obtain⟨jd,N,sz,a7,bc,cu,c9⟩:=acC (P:=P) (KU aJ ab) (KU aJ ad) he w;exact⟨jd,N,sz,by simp[execOp,ah,a7],bc,cu,c9⟩
 all_goals cases he
end
end
end Go.Cre

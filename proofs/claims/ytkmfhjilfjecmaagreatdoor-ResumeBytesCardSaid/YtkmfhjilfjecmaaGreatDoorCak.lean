/- A part of the proof of ResumeBytes. -/
import Derived.Test.YtkmfhjilfjecmaaGreatDoorCaj
import Derived.Orders
set_option linter.unusedVariables false
set_option linter.unusedSimpArgs false
namespace Go.Cre
noncomputable section
open Go.RowKit
def iJ(μ:bY)(c cd:List PanicEntry):Prop:=c.length=cd.length/\∀(i:Nat) e bz,c[i]?=some e->cd[i]?=some bz->bz.recovered=e.recovered/\bz.goexit=e.goexit/\bB μ e.v bz.v
def pn(μ:bY):FrameMode->FrameMode->Prop
 |.run,.run=>True
 |.returning,.returning=>True
 |.panicking c,.panicking cd=>iJ μ c cd
 |_,_=>False
def Jx(μ:bY)(d hB:Deferred):Prop:=
 (∃fv cap eh,d.target=.fn fv cap/\hB.target=.fn fv eh/\x9 fv=true/\b0 μ cap.toList eh.toList/\b0 μ d.args.toList hB.args.toList)\/(∃r L,d.target=.collected r/\μ r=some L/\hB.target=.collected L.r)
inductive yx (μ:bY):List Deferred->List Deferred->Prop
 |nil:yx μ [] []
 |cons (d hB:Deferred) (l l':List Deferred):Jx μ d hB->yx μ l l'->yx μ (d::l) (hB::l')
def FB(μ:bY):Ending->Ending->Prop
 |.returned v,.returned v'=>bB μ v v'
 |.panicked c,.panicked cd=>iJ μ c cd
 |_,_=>False
section
variable {P:Program}{B:Nat->Prop}{w0 w:World}{μ bD:bY}{H H':aA}
theorem iJ.mono{c cd:List PanicEntry}(h:iJ μ c cd)(e:Ext μ bD):iJ bD c cd:=⟨h.1,fun i a b x y=>by obtain⟨p,q,r⟩:=h.2 i a b x y;exact⟨p,q,r.mono e⟩⟩
theorem pn.mono{m m':FrameMode}(h:pn μ m m')(e:Ext μ bD):pn bD m m':=by
 cases m<;>cases m'<;>first|trivial|exact h.elim|exact iJ.mono h e
theorem Jx.mono{d hB:Deferred}(h:Jx μ d hB)(e:Ext μ bD):Jx bD d hB:=by
 rcases h with⟨fv,cap,eh,aa,ae,aF,bo,eB⟩|⟨r,L,aa,ae,aF⟩
 ·exact .inl ⟨fv,cap,eh,aa,ae,aF,bo.mono e,eB.mono e⟩
 ·exact .inr ⟨r,L,aa,e _ _ ae,aF⟩
theorem yx.mono{l l':List Deferred}(h:yx μ l l')(e:Ext μ bD):yx bD l l':=by
 induction h with
 |nil=>exact .nil
 |cons d hB l l' aV _ aI=>exact .cons d hB l l' (aV.mono e) aI
theorem iJ.single{v v':Value}(h:bB μ v v'):iJ μ [{v:=v,recovered:=false}] [{v:=v',recovered:=false}]:=
 ⟨rfl,fun i e bz x y=>by
  cases i with
  |zero=>simp at x y;subst x;subst y;exact⟨rfl,rfl,h⟩
  |succ i=>simp at x⟩
structure iS (μ:bY) (S:bh) (fr:Frame) (tmps:Array Value) (ds:List Deferred) (cs:List Frame):Prop where
 t:lD μ S.T S.n tmps
 d:yx μ S.ds ds
 kind:fr.kind=if S.b5 then .deferred else .normal
 zV:S.cK=none->fr.roundOf=none
 I1:∀l,S.cK=some l->∃L,μ l=some L/\fr.roundOf=some L.r
 bF:S.b5=true->∃c rest,cs=c::rest/\pn μ S.bF c.mode
theorem iS.mono{S:bh}{fr:Frame}{tmps:Array Value}{ds:List Deferred}{cs:List Frame}(h:iS μ S fr tmps ds cs)(e:Ext μ bD):iS bD S fr tmps ds cs:=
 ⟨h.t.mono e,h.d.mono e,h.kind,h.zV,fun l q=>by obtain⟨L,a,b⟩:=h.I1 l q;exact⟨L,e _ _ a,b⟩,fun q=>by obtain⟨c,r,a,b⟩:=h.bF q;exact⟨c,r,a,b.mono e⟩⟩
def kZ(d:Bool)(cs cS:List Frame):Prop:=if d then ∃c rest m,cs=c::rest/\cS={c with mode:=m}::rest else cS=cs
theorem kZ.refl(d:Bool)(cs:List Frame)(h:d=true->∃c rest,cs=c::rest):kZ d cs cs:=by
 cases d with
 |false=>rfl
 |true=>obtain⟨c,rest,rfl⟩:=h rfl;exact⟨c,rest,c.mode,rfl,rfl⟩
theorem kZ.trans{d:Bool}{a b c:List Frame}(h:kZ d a b)(k:kZ d b c):kZ d a c:=by
 cases d with
 |false=>exact Eq.trans k h
 |true=>
  obtain⟨x,rest,m,rfl,rfl⟩:=h;obtain⟨y,yg,m',e,rfl⟩:=k;injection e with aL bk;subst aL;subst bk
  exact⟨x,rest,m',rfl,rfl⟩
def qV(P:Program)(B:Nat->Prop)(w0:World)(call:eH):Prop:=
 ∀f args H e H',call f args H=some (e,H')->∀μ w cz,b9 P B w0 μ H w->b0 μ args cz->
  (∃v v' br bD,e=.returned v/\(callFunc f cz.toArray).run P w=.ok (.value v') br/\b9 P B w0 bD H' br/\Step μ bD H H'/\bB bD v v')\/
  ((callFunc f cz.toArray).run P w=.ok (.enter f cz.toArray) w/\Calls P f cz.toArray w (fun bz br=>∃bD,b9 P B w0 bD H' br/\Step μ bD H H'/\FB bD e bz))
def yI(P:Program)(B:Nat->Prop)(w0:World)(aR:gR):Prop:=
 ∀l args H e H',aR l args H=some (e,H')->∀μ w L cz,b9 P B w0 μ H w->μ l=some L->b0 μ args cz->
  ∃v f Fj a b,e=.returned v/\(Instr.yield L.r cz.toArray).run P w=.ok (.round L.r f Fj a b) w/\
   ∀caller cs,∃v' br bD,b9 P B w0 bD H' br/\Step μ bD H H'/\bB bD v v'/\Steps P (lone (Frame.round L.r f Fj a b .normal) (caller::cs) w) (lone (caller.finish v') cs br)
theorem Vj{ops:Array Oper}{T:bg Value}{n:Nat}{tmps:Array Value}{o:Oper}{b:Bool}(aB:lD μ T n tmps)(he:fD ops.toList T o=some b):Region.wanted o (yielded ops tmps)=b:=by
 unfold fD at he;unfold Region.wanted;cases aq:o.guard with
 |none=>rw[aq] at he;simp at he;exact he.symm▸rfl
 |some p=>
  obtain⟨j,want⟩:=p;rw[aq] at he;have he:vF ops.toList T (j,want)=some b:=he;simp only[vF,kE] at he;simp only[yielded];have a':ops.toList[j]?=ops[j]?:=by simp
  rw[a'] at he;cases au:ops[j]? with
  |none=>rw[au] at he;simp at he;subst he;simp
  |some p=>
   rw[au] at he;simp only at he;cases aV:p.dst with
   |none=>rw[aV] at he;simp at he;subst he;simp[aV]
   |some d=>
    rw[aV] at he;simp only at he;cases dn:T.get d with
    |none=>rw[dn] at he;simp at he
    |some v=>
     rw[dn] at he;have ay:=aB.2 d v dn;have ec:tmps[d]?=some (tmps.getD d undef)\/(tmps[d]?=none/\tmps.getD d undef=undef):=by
      rcases ji d tmps.size with q|q
      ·left;simp[q]
      ·right;simp[q]
     simp only[SS,aV];have alo:(∀c,v≠.bool c)->v≠.chan none->∀c,tmps.getD d undef≠.bool c:=fun aP hw c q=>by
      rw[q] at ay;cases ay with
      |atom _ _=>exact aP c rfl
      |yr _ _=>exact hw rfl
     by_cases HZ:∃c,v=.bool c
     ·obtain⟨c,rfl⟩:=HZ;simp only[cp] at he;subst he;have Pf:=ay.Gb;rcases ec with q|⟨_,q⟩
      ·rw[q,Pf];simp
      ·rw[q] at Pf;cases Pf
     ·have fB:∀c,v≠.bool c:=fun c q=>HZ ⟨c,q⟩;have zo:v≠.chan none:=fun q=>by rw[q] at he;cases he
      have ap:b=false:=by
       cases v<;>first|(simp only[cp] at he;exact he.symm)|exact absurd ⟨_,rfl⟩ HZ|cases he
      subst ap;rcases ec with q|⟨q,_⟩
      ·rw[q];have:=alo fB zo;cases U:tmps.getD d undef<;>first|rfl|exact absurd U (this _)
      ·rw[q];rfl
theorem Rl{S aS:bh}{fr:Frame}{tmps:Array Value}{ds:List Deferred}{cs:List Frame}{dst:Option Tmp}{v v':Value}(h:iS μ S fr tmps ds cs)(ay:bB μ v v')(he:S.put dst v=some aS):
 iS μ aS fr (uF tmps dst v') ds cs/\aS.b5=S.b5/\aS.cK=S.cK/\aS.bF=S.bF/\aS.ds=S.ds:=by
 cases dst with
 |none=>
  have he:some S=some aS:=he;injection he with he;subst he
  exact⟨h,rfl,rfl,rfl,rfl⟩
 |some d=>
  obtain⟨T,n,h7,b5,bF,cK⟩:=S;have he:Bool.rec (motive:=fun _=>Option bh) none (bh.uE n h7 b5 bF cK (bg.put v T d)) (Nat.ble (Nat.succ d) n)=some aS:=he;cases ap:Nat.ble (Nat.succ d) n with
  |false=>rw[ap] at he;cases he
  |true=>
   rw[ap] at he;have ap:=hV ap;have he:bh.uE n h7 b5 bF cK (bg.put v T d)=some aS:=he;cases au:bg.put v T d with
   |none=>rw[au] at he;cases he
   |some eR=>
    rw[au] at he;have he:some (bh.mk eR n h7 b5 bF cK)=some aS:=he;injection he with he;subst he
    refine⟨⟨⟨by have:=h.t.1;simpa[uF] using this,fun t u q=>?_⟩,h.d,h.kind,h.zV,h.I1,h.bF⟩,rfl,rfl,rfl,rfl⟩;have q:eR.get t=some u:=q;rw[bg.get_put au] at q;have eV:n<=tmps.size:=h.t.1;show bB μ u ((tmps.setIfInBounds d v').getD t undef);by_cases Qd:t=d
    ·subst Qd;rw[aE rfl] at q;injection q with q;subst q
     have:(tmps.setIfInBounds t v').getD t undef=v':=by
      have:t<tmps.size:=by omega
      simp[this]
     rw[this];exact ay
    ·rw[an Qd] at q;have:(tmps.setIfInBounds d v').getD t undef=tmps.getD t undef:=by
      simp[aaO (Ne.symm Qd)]
     rw[this];exact h.t.2 t u q
def k5(P:Program)(B:Nat->Prop)(w0:World)(μ:bY)(H:aA)(S:bh)(fr:Frame)(cs:List Frame)(m:Machine)(todo:List Item):dJ->Prop
 |.ok aS H'=>∃bD br gO e8 cS,b9 P B w0 bD H' br/\Step μ bD H H'/\iS bD aS fr gO e8 cS/\kZ S.b5 cs cS/\aS.b5=S.b5/\aS.cK=S.cK/\Steps P m (lone (ck fr gO e8 todo) cS br)
 |.iO chain aS H'=>∃bD br gO e8 cS Gq hv,b9 P B w0 bD H' br/\Step μ bD H H'/\iS bD aS fr gO e8 cS/\kZ S.b5 cs cS/\aS.b5=S.b5/\aS.cK=S.cK/\iJ bD chain Gq/\
  Steps P m (lone {ck fr gO e8 hv with mode:=.panicking Gq} cS br)
end
end
end Go.Cre
namespace Go.Cre
noncomputable section
open Go.RowKit
section
variable {P:Program}{B:Nat->Prop}{w0 w:World}{μ:bY}{H H':aA}{S:bh}{fr:Frame}{tmps:Array Value}{ds:List Deferred}{cs:List Frame}{call:eH}{aR:gR}
variable {ops:Array Oper}{i:Nat}{rest:List Nat}{k:List Item}{o:Oper}
theorem iS.Bn(aD:iS μ S fr tmps ds cs):S.b5=true->∃c rest,cs=c::rest:=fun q=>by obtain⟨c,r,a,_⟩:=aD.bF q;exact⟨c,r,a⟩
theorem adU{r:cL}(he:cJ P call aR S H o=some r){c:Call}(ar:o.op=.defer c):S.cK=none:=by
 unfold cJ fe at he;simp only at he;rw[ar] at he;have he:wm P ⟨call,aR,S,H,o⟩ c=some r:=he;unfold wm at he;cases aw:S.cK with
 |none=>rfl
 |some l=>simp only[aw] at he;cases he
theorem Cr{v v':Value}{bD:bY}{H':aA}{br:World}{m:Machine}{dA:dJ}(aD:iS bD S fr tmps ds cs)(oV:b9 P B w0 bD H' br)(hs:Step μ bD H H')(ay:bB bD v v')
 (dw:Steps P m (lone (ck fr (uF tmps o.dst v') ds (.inRegion ops rest::k)) cs br))(he:mo S o.dst v H'=some dA):k5 P B w0 μ H S fr cs m (.inRegion ops rest::k) dA:=by
 unfold mo pg at he;cases au:S.put o.dst v with
 |none=>rw[au] at he;cases he
 |some aS=>
  rw[au] at he;have he:some (dJ.ok aS H')=some dA:=he;injection he with he;subst he
  obtain⟨a,b,c,_,_⟩:=Rl aD ay au;exact⟨bD,br,_,ds,cs,oV,hs,a,kZ.refl _ _ aD.Bn,b,c,dw⟩
theorem k5.congr{S bn:bh}{m:Machine}{todo:List Item}{dA:dJ}(aa:bn.b5=S.b5)(ae:bn.cK=S.cK)(h:k5 P B w0 μ H bn fr cs m todo dA):k5 P B w0 μ H S fr cs m todo dA:=by
 cases dA with
 |ok aS H'=>obtain⟨a,b,c,d,e,g1,g2,g3,g4,g5,g6,g7⟩:=h;exact⟨a,b,c,d,e,g1,g2,g3,aa▸g4,g5.trans aa,g6.trans ae,g7⟩
 |iO chain aS H'=>obtain⟨a,b,c,d,e,x,y,g1,g2,g3,g4,g5,g6,g7,g8⟩:=h;exact⟨a,b,c,d,e,x,y,g1,g2,g3,aa▸g4,g5.trans aa,g6.trans ae,g7,g8⟩
theorem aow{ops:Array Oper}{i:Nat}{rest:List Nat}{o:Oper}{br:World}{v:Value}{cS:List Frame}(ar:ops[i]?=some o)(hw:Region.wanted o (yielded ops tmps)=true)(uq:fr.roundOf=none)
 (aw:(execOp (dz tmps) o).run P w=.ok .recover br)(aB:(tryRecover (ck fr tmps ds (.inRegion ops (i::rest)::k)) cs).getD (.nilIface,cs)=(v,cS)):
 step P (lone (ck fr tmps ds (.inRegion ops (i::rest)::k)) cs w)=.next (lone (ck fr (uF tmps o.dst v) ds (.inRegion ops rest::k)) cS br):=by
 rw[<-A1 ar];refine step_lone_go ?_;rw[Cv ar hw (.inl uq)];have WD:(ck fr tmps ds (.inRegion ops (i::rest)::k)).roundOf=none:=uq;cases U:tryRecover (ck fr tmps ds (.inRegion ops (i::rest)::k)) cs with
 |none=>
  rw[U] at aB;simp at aB;obtain⟨rfl,rfl⟩:=aB;simp[stepG.apply,aw,WD,U]
 |some p=>
  obtain⟨v1,gl⟩:=p;rw[U] at aB;simp at aB;obtain⟨rfl,rfl⟩:=aB;simp[stepG.apply,aw,WD,U]
theorem ant{ops:Array Oper}{i:Nat}{rest:List Nat}{v:Value}{bF:FrameMode}(aD:iS μ S fr tmps ds cs)(he:r1 S=some (v,bF)):
 ∃v' cS,(tryRecover (ck fr tmps ds (.inRegion ops (i::rest)::k)) cs).getD (.nilIface,cs)=(v',cS)/\bB μ v v'/\iS μ (S.yt bF) fr tmps ds cS/\kZ S.b5 cs cS/\fr.roundOf=none:=by
 unfold r1 at he;cases uq:S.cK with
 |some l=>rw[uq] at he;cases he
 |none=>
  rw[uq] at he;have qs:=aD.zV uq;obtain⟨T,n,h7,b5,Jg,cK⟩:=S;cases b5 with
  |false=>
   simp only[dT] at he;injection he with he;injection he with aL bk;subst aL;subst bk
   have aO:(ck fr tmps ds (.inRegion ops (i::rest)::k)).kind=.normal:=aD.kind;have:tryRecover (ck fr tmps ds (.inRegion ops (i::rest)::k)) cs=none:=by
    cases cs<;>simp[tryRecover,aO]
   rw[this];exact⟨_,_,rfl,bB.atom _ rfl,aD,rfl,qs⟩
  |true=>
   simp only[b7] at he;have aO:(ck fr tmps ds (.inRegion ops (i::rest)::k)).kind=.deferred:=aD.kind;obtain⟨c,Cs,rfl,hm⟩:=aD.bF rfl;rw[tryRecover_deferred aO];have fB:recoverD (c::Cs)=none->v=.nilIface->bF=Jg->∃v' cS,(recoverD (c::Cs)).getD (.nilIface,c::Cs)=(v',cS)/\bB μ v v'/\iS μ (bh.yt bF ⟨T,n,h7,true,Jg,cK⟩) fr tmps ds cS/\kZ true (c::Cs) cS/\fr.roundOf=none:=by
    intro aa ae aF;subst ae;subst aF;rw[aa];exact⟨_,_,rfl,bB.atom _ rfl,aD,⟨c,Cs,c.mode,rfl,rfl⟩,qs⟩
   cases Qf:Jg with
   |run=>
    subst Qf;simp only at he;injection he with he;injection he with aL bk
    refine fB ?_ aL.symm bk.symm;cases rA:c.mode<;>rw[rA] at hm<;>first|exact hm.elim|simp[recoverD,rA]
   |returning=>
    subst Qf;simp only at he;injection he with he;injection he with aL bk
    refine fB ?_ aL.symm bk.symm;cases rA:c.mode<;>rw[rA] at hm<;>first|exact hm.elim|simp[recoverD,rA]
   |panicking bK=>
    subst Qf;cases rA:c.mode with
    |run=>rw[rA] at hm;exact hm.elim
    |returning=>rw[rA] at hm;exact hm.elim
    |panicking AO=>
     rw[rA] at hm;have hm:iJ μ bK AO:=hm;cases bK with
     |nil=>
      have:AO=[]:=yA hm.1.symm;subst this;simp only at he;injection he with he;injection he with aL bk
      exact fB (by simp[recoverD,rA]) aL.symm bk.symm
     |cons x LP=>
      cases AO with
      |nil=>have:=hm.1;simp at this
      |cons dR alQ=>
       obtain⟨bm,a2,a3⟩:=hm.2 0 x dR rfl rfl;obtain⟨CP,aqm,aqj⟩:=x;obtain⟨R6,R5,aaC⟩:=dR;simp only at bm a2 a3;subst bm;subst a2;cases R5 with
       |true=>
        simp only at he;injection he with he;injection he with aL bk
        exact fB (by simp[recoverD,rA]) aL.symm bk.symm
       |false=>
        cases aaC with
        |true=>
         simp only at he;injection he with he;injection he with aL bk
         exact fB (by simp[recoverD,rA]) aL.symm bk.symm
        |false=>
         simp only at he;injection he with he;injection he with aL bk
         subst aL;subst bk;refine⟨R6,{c with mode:=.panicking ({v:=R6,recovered:=true}::alQ)}::Cs,by simp[recoverD,rA],a3,⟨aD.t,aD.d,aD.kind,aD.zV,aD.I1,fun _=>⟨_,_,rfl,?_⟩⟩,⟨c,Cs,_,rfl,rfl⟩,qs⟩;refine⟨by have:=hm.1;simpa using this,fun j e bz q du=>?_⟩;cases j with
         |zero=>simp at q du;subst q;subst du;exact⟨rfl,rfl,a3⟩
         |succ j=>exact hm.2 (j+1) e bz (by simpa using q) (by simpa using du)
theorem EV(hD:qV P B w0 call)(pI:yI P B w0 aR)(h:b9 P B w0 μ H w)(aD:iS μ S fr tmps ds cs)(ar:ops[i]?=some o){dA:dJ}(he:one P call aR ops.toList S H o=some dA):
 k5 P B w0 μ H S fr cs (lone (ck fr tmps ds (.inRegion ops (i::rest)::k)) cs w) (.inRegion ops rest::k) dA:=by
 unfold one at he;cases aq:fD ops.toList S.T o with
 |none=>rw[aq] at he;cases he
 |some b=>
  rw[aq] at he;have hw:=Vj aD.t aq;cases b with
  |false=>
   have he:mo S o.dst undef H=some dA:=he;exact Cr aD h (Step.refl _ _) (bB.undef μ) (.one (aoC ar hw)) he
  |true=>
   have he:pP S H o.dst (cJ P call aR S H o)=some dA:=he;cases d':cJ P call aR S H o with
   |none=>rw[d'] at he;cases he
   |some r=>
    rw[d'] at he;have he:Yg S H o.dst r=some dA:=he;have dq:=aeZ h aD.t d';have dM:fr.roundOf=none\/∀c,o.op≠.defer c:=by
     by_cases aV:∃c,o.op=.defer c
     ·obtain⟨c,aV⟩:=aV;exact .inl (aD.zV (adU d' aV))
     ·exact .inr fun c q=>aV ⟨c,q⟩
    cases r with
    |val v H1=>
     have he:mo S o.dst v H1=some dA:=he;rcases dq with⟨v',br,bD,cO,ed,gr,iG⟩|⟨f,args,cz,cO,ed,gr⟩|⟨l,L,args,cz,nq,cO,ed,gr⟩
     ·exact Cr (aD.mono gr.ext) ed gr iG (.one (RJ ar hw dM cO)) he
     ·rcases hD f args H _ _ gr μ w cz h ed with⟨v0,v',br,bD,aL,bk,cG,eL,cu⟩|⟨aL,bk⟩
      ·injection aL with aL;subst aL
       exact Cr (aD.mono eL.ext) cG eL cu (.one (RJ ar hw dM (cO.trans bk))) he
      ·obtain⟨bz,br,afD,⟨bD,g1,g2,g3⟩,O0,_,Pz⟩:=bk (ck fr tmps ds (.inRegion ops (i::rest)::k)::cs);cases bz with
       |returned v'=>
        refine Cr (aD.mono g2.ext) g1 g2 g3 ?_ he;rw[<-A1 ar];exact .head (ZC ar hw dM (cO.trans aL)) (Steps.trans O0 (.one (step_leave_returned Pz)))
       |panicked c=>exact g3.elim
       |outgrown=>exact g3.elim
     ·obtain⟨v0,f,Fj,a,b,aL,bk,cG⟩:=pI l args H _ _ gr μ w L cz h nq ed;injection aL with aL;subst aL
      obtain⟨v',br,bD,g1,g2,g3,g4⟩:=cG (ck fr tmps ds (.inRegion ops (i::rest)::k)) cs;refine Cr (aD.mono g2.ext) g1 g2 g3 ?_ he;rw[<-A1 ar];exact .head (aoy ar hw dM (cO.trans bk)) g4
    |skip H1=>
     have he:mo S o.dst undef H1=some dA:=he;obtain⟨br,cO,ed,gr⟩:=dq;exact Cr aD ed gr (bB.undef μ) (.one (aoB ar hw dM cO)) he
    |iW d=>
     have he:Ca S H o.dst d=some dA:=he;unfold Ca at he;cases P3:S.cK with
     |some l=>rw[P3] at he;cases he
     |none=>
     rw[P3] at he;have he:mo (S.Fp d) o.dst undef H=some dA:=he;obtain⟨fv,cap,eh,args,cz,rfl,cO,ed,gr,iG⟩:=dq;have uq:fr.roundOf=none:=aD.zV P3;obtain⟨T,n,h7,b5,bF,cK⟩:=S
     have O7:iS μ (bh.Fp {target:=.fn fv cap,args:=args.toArray} ⟨T,n,h7,b5,bF,cK⟩) fr tmps ({target:=.fn fv eh,args:=cz.toArray}::ds) cs:=
      ⟨aD.t,.cons _ _ _ _ (.inl ⟨fv,cap,eh,rfl,rfl,ed,gr,by simpa using iG⟩) aD.d,aD.kind,aD.zV,aD.I1,aD.bF⟩
     exact k5.congr (bn:=bh.Fp {target:=.fn fv cap,args:=args.toArray} ⟨T,n,h7,b5,bF,cK⟩) rfl rfl (Cr O7 h (Step.refl _ _) (bB.undef μ) (.one (aoo ar hw uq cO)) he)
    |iO chain H1=>
     have he:some (dJ.iO chain S H1)=some dA:=he;injection he with he;subst he
     rcases dq with⟨v,v',rfl,rfl,cO,ed⟩|⟨f,args,cz,cO,ed,gr⟩
     ·exact⟨μ,w,tmps,ds,cs,_,_,h,Step.refl _ _,aD,kZ.refl _ _ aD.Bn,rfl,rfl,iJ.single ed,.one (aov ar hw dM cO)⟩
     ·rcases hD f args H _ _ gr μ w cz h ed with⟨v0,v',br,bD,aL,_⟩|⟨aL,bk⟩
      ·cases aL
      ·obtain⟨bz,br,afD,⟨bD,g1,g2,g3⟩,O0,_,Pz⟩:=bk (ck fr tmps ds (.inRegion ops (i::rest)::k)::cs);cases bz with
       |returned v'=>exact g3.elim
       |panicked c=>
        refine⟨bD,br,tmps,ds,cs,c,.inRegion ops (i::rest)::k,g1,g2,aD.mono g2.ext,kZ.refl _ _ aD.Bn,rfl,rfl,g3,?_⟩;exact .head (ZC ar hw dM (cO.trans aL)) (Steps.trans O0 (.one (step_leave_panicked Pz)))
       |outgrown=>exact g3.elim
    |Cp=>
     have he:IK S H o.dst (r1 S)=some dA:=he;cases Eo:r1 S with
     |none=>rw[Eo] at he;cases he
     |some p=>
      obtain⟨v,bF⟩:=p;rw[Eo] at he;have he:mo (S.yt bF) o.dst v H=some dA:=he;obtain⟨v',cS,t1,t2,t3,t4,t5⟩:=ant (k:=k) (ops:=ops) (i:=i) (rest:=rest) aD Eo;unfold mo pg at he;cases au:(S.yt bF).put o.dst v with
      |none=>rw[au] at he;cases he
      |some aS=>
       rw[au] at he;have he:some (dJ.ok aS H)=some dA:=he;injection he with he;subst he
       obtain⟨a,b,c,_,_⟩:=Rl t3 t2 au;exact⟨μ,w,_,ds,cS,h,Step.refl _ _,a,t4,b,c,.one (aow ar hw t5 dq t1)⟩
end
end
end Go.Cre
namespace Go.Cre
noncomputable section
open Go.RowKit
section
variable {P:Program}{B:Nat->Prop}{w0 w:World}{μ:bY}{H H':aA}{S:bh}{fr:Frame}{tmps:Array Value}{ds:List Deferred}{cs:List Frame}{call:eH}{aR:gR}
variable {ops:Array Oper}{k:List Item}
theorem k5.steps{m m':Machine}{todo:List Item}{dA:dJ}(hs:Steps P m m')(h:k5 P B w0 μ H S fr cs m' todo dA):k5 P B w0 μ H S fr cs m todo dA:=by
 cases dA with
 |ok aS H'=>obtain⟨a,b,c,d,e,g1,g2,g3,g4,g5,g6,g7⟩:=h;exact⟨a,b,c,d,e,g1,g2,g3,g4,g5,g6,hs.trans g7⟩
 |iO chain aS H'=>obtain⟨a,b,c,d,e,x,y,g1,g2,g3,g4,g5,g6,g7,g8⟩:=h;exact⟨a,b,c,d,e,x,y,g1,g2,g3,g4,g5,g6,g7,hs.trans g8⟩
theorem k5.bind{bn:bh}{H1:aA}{m:Machine}{ZS ZT:List Item}{dA:dJ}(h:k5 P B w0 μ H S fr cs m ZS (.ok bn H1))
 (aO:∀f' eK Aa vr gl,b9 P B w0 f' H1 eK->Step μ f' H H1->iS f' bn fr Aa vr gl->kZ S.b5 cs gl->bn.b5=S.b5->bn.cK=S.cK->k5 P B w0 f' H1 bn fr gl (lone (ck fr Aa vr ZS) gl eK) ZT dA):k5 P B w0 μ H S fr cs m ZT dA:=by
 obtain⟨f',eK,Aa,vr,gl,g1,g2,g3,g4,g5,g6,g7⟩:=h;have dZ:=(aO f' eK Aa vr gl g1 g2 g3 g4 g5 g6).steps g7;cases dA with
 |ok aS H'=>obtain⟨a,b,c,d,e,bb,a7,b8,fl,jb,qH,Rm⟩:=dZ;exact⟨a,b,c,d,e,bb,g2.trans a7,b8,g4.trans (g5▸fl),jb.trans g5,qH.trans g6,Rm⟩
 |iO chain aS H'=>obtain⟨a,b,c,d,e,x,y,bb,a7,b8,fl,jb,qH,Rm,ang⟩:=dZ;exact⟨a,b,c,d,e,x,y,bb,g2.trans a7,b8,g4.trans (g5▸fl),jb.trans g5,qH.trans g6,Rm,ang⟩
theorem ae0(hD:qV P B w0 call)(pI:yI P B w0 aR)(l:List Oper):∀(i:Nat) (μ:bY) (w:World) (S:bh) (H:aA) (tmps:Array Value) (ds:List Deferred) (cs:List Frame) (dA:dJ),
 ops.toList.drop i=l->b9 P B w0 μ H w->iS μ S fr tmps ds cs->DO P call aR ops.toList l S H=some dA->
 k5 P B w0 μ H S fr cs (lone (ck fr tmps ds (.inRegion ops (List.range' i l.length)::k)) cs w) k dA:=by
 induction l with
 |nil=>
  intro i μ w S H tmps ds cs dA _ h aD he;have he:some (dJ.ok S H)=some dA:=he;injection he with he;subst he
  exact⟨μ,w,tmps,ds,cs,h,Step.refl _ _,aD,kZ.refl _ _ aD.Bn,rfl,rfl,.one RH⟩
 |cons o l aI=>
  intro i μ w S H tmps ds cs dA aV h aD he;have he:US (DO P call aR ops.toList l) (one P call aR ops.toList S H o)=some dA:=he;have ar:ops[i]?=some o:=by
   have:(ops.toList.drop i)[0]?=some o:=by rw[aV];rfl
   simpa using this
  have xD:ops.toList.drop (i+1)=l:=by
   have:(ops.toList.drop i).drop 1=l:=by rw[aV];rfl
   rw[yz] at this;exact this
  show k5 P B w0 μ H S fr cs (lone (ck fr tmps ds (.inRegion ops (i::List.range' (i+1) l.length)::k)) cs w) k dA;cases o5:one P call aR ops.toList S H o with
  |none=>rw[o5] at he;cases he
  |some cO=>
   rw[o5] at he;have aa:=EV (k:=k) (rest:=List.range' (i+1) l.length) hD pI h aD ar o5;cases cO with
   |iO chain bn H1=>
    have he:some (dJ.iO chain bn H1)=some dA:=he;injection he with he;subst he
    exact aa
   |ok bn H1=>
    have he:DO P call aR ops.toList l bn H1=some dA:=he;exact aa.bind fun f' eK Aa vr gl g1 _ g3 _ _ _=>aI (i+1) f' eK bn H1 Aa vr gl dA xD g1 g3 he
end
end
end Go.Cre
namespace Go.Cre
noncomputable section
open Go.RowKit
section
variable {P:Program}{H:aA}{S aS:bh}{o:Oper}{call:eH}{aR:gR}
theorem IR{T eR:bg Value}:∀{l:List Operand},(∀x∈l,bj eR H x=bj T H x)->eI eR H l=eI T H l:=by
 intro l;induction l with
 |nil=>intro _;rfl
 |cons x l aI=>
  intro h;simp only[eI];rw[h x (by simp),aI fun y ai=>h y (by simp[ai])]
theorem Yp{T eR:bg Value}:∀{l:List (Nat×Operand)},(∀x∈l.map (·.2),bj eR H x=bj T H x)->ls eR H l=ls T H l:=by
 intro l;induction l with
 |nil=>intro _;rfl
 |cons x l aI=>
  intro h;obtain⟨i,x⟩:=x;simp only[ls];rw[h x (by simp),aI fun y ai=>h y (by simp at ai ⊢;exact .inr ai)]
theorem ae1{T eR:bg Value}(hs:∀cs b,o.op≠.select cs b)(h:∀x∈o.op.operands,bj eR H x=bj T H x):gm P eR H o=gm P T H o:=by
 unfold gm;rw[IR fun x U=>h x (by simpa using U)];have:execOp (pR eR H) o=execOp (pR T H) o:=execOp_congr o hs fun x U=>by unfold pR;rw[h x U]
 rw[this]
theorem Yi{T eR:bg Value}{x:Option Operand}(h:∀y∈x.toArray,bj eR H y=bj T H y):jQ eR H x=jQ T H x:=by
 cases x with
 |none=>rfl
 |some x=>simp only[jQ];rw[h x (by simp)]
theorem Ks(aw:aS.cK=S.cK)(h:∀x∈o.op.operands,bj aS.T H x=bj S.T H x):cJ P call aR aS H o=cJ P call aR S H o:=by
 have dE:(∀cs b,o.op≠.select cs b)->gm P aS.T H o=gm P S.T H o:=fun hs=>ae1 hs h;unfold cJ fe;obtain⟨dst,op,type,pos,after,guard⟩:=o;simp only at h dE;cases op<;>simp only[Op.operands] at h<;>simp only
 case move x=>show fZ (bj aS.T H x) H=fZ (bj S.T H x) H;rw[h x (by simp)]
 case assign x=>show fZ (bj aS.T H x) H=fZ (bj S.T H x) H;rw[h x (by simp)]
 case pick c a b=>
  show zP P _ a b (bj aS.T H c)=zP P _ a b (bj S.T H c);rw[h c (by simp)];have aL:bj aS.T H a=bj S.T H a:=h a (by simp);have bk:bj aS.T H b=bj S.T H b:=h b (by simp);unfold zP en.bj;simp only[aL,bk]
 case alloc e=>rfl
 case box e x=>show IM P _ e (bj aS.T H x)=IM P _ e (bj S.T H x);rw[h x (by simp)];rfl
 case build t ew=>show Cb P _ t (ls aS.T H ew.toList)=Cb P _ t (ls S.T H ew.toList);rw[Yp fun x U=>h x (by simpa using U)];rfl
 case buildSlice t n ew=>show IN P _ t n (ls aS.T H ew.toList)=IN P _ t n (ls S.T H ew.toList);rw[Yp fun x U=>h x (by simpa using U)];rfl
 case load t a=>show Ce P _ t (bj aS.T H a)=Ce P _ t (bj S.T H a);rw[h a (by simp)];rfl
 case store t a v=>show Ci P _ t (bj aS.T H a) (bj aS.T H v)=Ci P _ t (bj S.T H a) (bj S.T H v);rw[h a (by simp),h v (by simp)];rfl
 case nilCheck x=>show Ch P _ (bj aS.T H x)=Ch P _ (bj S.T H x);rw[h x (by simp)];rfl
 case binOp op t x y u=>
  have au:=dE (fun _ _=>by simp);show pd P _ op t (bj aS.T H x) (bj aS.T H y)=pd P _ op t (bj S.T H x) (bj S.T H y);rw[h x (by simp),h y (by simp)];have Ev:∀a b,uD P ⟨call,aR,aS,H,⟨dst,.binOp op t x y u,type,pos,after,guard⟩⟩ op t a b=uD P ⟨call,aR,S,H,⟨dst,.binOp op t x y u,type,pos,after,guard⟩⟩ op t a b:=fun a b=>by
   unfold uD en.ow;simp only[au];unfold wk;rfl
  unfold pd Q5 en.ow;simp only[au,Ev]
 case unOp op t x=>
  have au:=dE (fun _ _=>by simp);exact au
 case convert s d x=>
  have au:=dE (fun _ _=>by simp);show rZ P _ s d (bj aS.T H x)=rZ P _ s d (bj S.T H x);rw[h x (by simp)];unfold rZ en.ow;simp only[au]
 case makeInterface t x=>show Cg P _ t (bj aS.T H x) _=Cg P _ t (bj S.T H x) _;rw[h x (by simp)];rfl
 case makeFunc fn first captured=>
  show Cf P _ fn (eI aS.T H first.toList) (eI aS.T H captured.toList)=Cf P _ fn (eI S.T H first.toList) (eI S.T H captured.toList);rw[IR fun x U=>h x (by simp at U;simp[U]),IR fun x U=>h x (by simp at U;simp[U])];rfl
 case makeSlice t l c=>show IP P _ t (bj aS.T H l) (bj aS.T H c)=IP P _ t (bj S.T H l) (bj S.T H c);rw[h l (by simp),h c (by simp)];rfl
 case slice t x cm ao qA=>
  have au:=dE (fun _ _=>by simp);cases qA with
  |some m=>rfl
  |none=>
   show qD P _ t (bj aS.T H x) (jQ aS.T H cm) (jQ aS.T H ao)=qD P _ t (bj S.T H x) (jQ S.T H cm) (jQ S.T H ao);rw[h x (by simp),Yi (x:=cm) fun y ai=>h y (by simp at ai;simp[ai]),Yi (x:=ao) fun y ai=>h y (by simp at ai;simp[ai])];unfold qD en.ow;simp only[au]
 case fieldAddr t x f=>show Cd P _ t f (bj aS.T H x)=Cd P _ t f (bj S.T H x);rw[h x (by simp)];rfl
 case field t x f=>show EW P _ f (bj aS.T H x) _=EW P _ f (bj S.T H x) _;rw[h x (by simp)];rfl
 case indexAddr t x i=>show zN P _ t (bj aS.T H x) (bj aS.T H i)=zN P _ t (bj S.T H x) (bj S.T H i);rw[h x (by simp),h i (by simp)];rfl
 case index t x i=>show zM P _ (bj aS.T H x) (bj aS.T H i) _=zM P _ (bj S.T H x) (bj S.T H i) _;rw[h x (by simp),h i (by simp)];rfl
 case typeAssert x t a ok=>show zQ P _ a ok (bj aS.T H x)=zQ P _ a ok (bj S.T H x);rw[h x (by simp)];rfl
 case extract x aW=>show Cc P _ aW (bj aS.T H x)=Cc P _ aW (bj S.T H x);rw[h x (by simp)];rfl
 case call c=>
  have au:=dE (fun _ _=>by simp);have sK:eI aS.T H c.args.toList=eI S.T H c.args.toList:=IR fun x U=>h x (by simp[Call.operands,Fv.1 U]);show kU P _ c=kU P _ c;unfold kU;cases aC:c.callee with
  |builtin b=>
   simp only
   unfold pw;simp only[sK,au]
  |value f=>
   have aD:bj aS.T H f=bj S.T H f:=h f (by simp[Call.operands,aC]);simp only
   unfold n9;simp only[sK,aC,aD]
  |invoke r m=>
   have aD:bj aS.T H r=bj S.T H r:=h r (by simp[Call.operands,aC]);simp only
   unfold n9;simp only[sK,aC,aD]
 case defer c=>
  have sK:eI aS.T H c.args.toList=eI S.T H c.args.toList:=IR fun x U=>h x (by simp[Call.operands,Fv.1 U]);show wm P _ c=wm P _ c;unfold wm GN;simp only[aw,sK];cases aC:c.callee with
  |builtin b=>rfl
  |value f=>
   have aD:bj aS.T H f=bj S.T H f:=h f (by simp[Call.operands,aC]);simp only[aD]
  |invoke r m=>
   have aD:bj aS.T H r=bj S.T H r:=h r (by simp[Call.operands,aC]);simp only[aD]
 case panic x=>show IQ P _ (bj aS.T H x)=IQ P _ (bj S.T H x);rw[h x (by simp)];rfl
end
end
end Go.Cre
namespace Go.Cre
noncomputable section
open Go.RowKit
section
variable {P:Program}{H H':aA}{S aS:bh}{o:Oper}{call:eH}{aR:gR}{v:Value}
theorem p0{x:Option Value}(he:fZ x H=some (.val v H')):H'=H:=by
 cases x with
 |none=>cases he
 |some x=>have he:some (cL.val x H)=some (.val v H'):=he;injection he with he;injection he with _ he;exact he.symm
theorem ae2{T:bg Value}(he:gm P T H o=some (.val v H')):H'=H:=by
 unfold gm at he;cases aa:eI T H o.op.operands.toList with
 |none=>rw[aa] at he;cases he
 |some vs=>
  rw[aa] at he;cases ae:vs.all plain with
  |false=>simp only[ae] at he;cases he
  |true=>
   simp only[ae,b7] at he;cases aF:eY P (execOp (pR T H) o) with
   |none=>rw[aF] at he;cases he
   |some r=>
    rw[aF] at he;cases r with
    |value u=>
     simp only at he;cases bo:plain u with
     |false=>rw[bo] at he;cases he
     |true=>rw[bo] at he;injection he with he;injection he with _ he;exact he.symm
    |skip=>injection he with he;cases he
    |_=>cases he
theorem Yk{a b:Option cL}(a1:a=some (.val v H')->H'=H)(ap:b=some (.val v H')->H'=H)(he:orElse a b=some (.val v H')):H'=H:=by
 cases a with
 |none=>exact ap he
 |some a=>exact a1 he
theorem L7{n:Int}{k:IntKind}(he:rp n (pT H k)=some (.val v H')):H'=H:=by
 rcases n with(_|m)|(_|m)<;>(injection he with he;injection he with _ he;exact he.symm)
theorem anG{b:Bool}(he:yh H b=some (.val v H')):H'=H:=by
 cases b<;>(injection he with he;injection he with _ he;exact he.symm)
theorem abS{b:Bool}{u:Value}(h:(bif b then none else some (cL.val u H))=some (.val v H')):H'=H:=by
 cases b<;>simp at h;exact h.2.symm
theorem UR(aC:EF o.op=false)(a1:zz o.op=false)(he:cJ P call aR S H o=some (.val v H'))(e4:H'.ak=H.ak):H'=H:=by
 unfold cJ fe at he;obtain⟨dst,op,type,pos,after,guard⟩:=o;have dE:∀o',gm P S.T H o'=some (.val v H')->H'=H:=fun o' q=>ae2 q;cases op<;>simp only[EF,zz] at aC a1<;>simp only at he
 case move x=>exact p0 (x:=bj S.T H x) he
 case assign x=>exact p0 (x:=bj S.T H x) he
 case pick c a b=>
  have he:zP P _ a b (bj S.T H c)=_:=he;unfold zP at he;split at he
  ·exact p0 he
  ·exact p0 he
  ·cases he
 case alloc=>cases a1
 case box=>cases a1
 case build t ew=>
  have he:Cb P _ t (ls S.T H ew.toList)=_:=he;unfold Cb at he;split at he
  ·exact p0 he
  ·cases he
 case buildSlice=>cases a1
 case load t a=>
  have he:Ce P _ t (bj S.T H a)=_:=he;unfold Ce at he;split at he
  ·exact p0 he
  ·cases he
 case nilCheck x=>
  have he:Ch P _ (bj S.T H x)=_:=he;unfold Ch at he;split at he<;>first|(injection he with he;injection he with _ he;exact he.symm)|cases he
 case binOp op t x y u=>
  have he:pd P _ op t (bj S.T H x) (bj S.T H y)=_:=he;have Ev:∀X:en,X.H=H->X.S=S->∀a b,uD P X op t a b=some (.val v H')->H'=H:=fun X hC ax a b q=>by
   unfold uD at q;refine Yk (fun q=>?_) (fun q=>?_) q
   ·unfold en.ow at q;rw[hC,ax] at q;exact dE _ q
   ·unfold wk at q;split at q
    ·split at q
     ·injection q with q;injection q with _ q;rw[<-q,hC]
     ·cases q
    ·split at q
     ·injection q with q;injection q with _ q;rw[<-q,hC]
     ·cases q
    ·cases q
  unfold pd at he;split at he
  ·unfold Q5 at he;rename_i k a l b _ _;cases aO:uw k l with
   |false=>rw[aO,dT] at he;exact Ev _ (by rfl) (by rfl) _ _ he
   |true=>
    rw[aO,b7] at he;unfold nj at he;split at he<;>first|exact L7 he|exact anG he|exact dE _ he
  ·exact Ev _ (by rfl) (by rfl) _ _ he
  ·cases he
 case unOp op t x=>exact dE _ he
 case convert s d x=>
  have he:rZ P _ s d (bj S.T H x)=_:=he;unfold rZ at he;split at he
  ·cases he
  ·rename_i r4 _;cases ay:sC P H s d r4 with
   |none=>rw[ay] at he;exact dE _ he
   |some p=>
    obtain⟨u,H1⟩:=p;rw[ay] at he;have he:some (cL.val u H1)=some (.val v H'):=he;injection he with he;injection he with _ he;subst he
    have:=ae8 ay;omega
  ·exact p0 he
  ·exact p0 he
  ·split at he
   ·exact L7 he
   ·exact dE _ he
  ·exact dE _ he
 case makeInterface t x=>
  have he:Cg P _ t (bj S.T H x) (P.underlying t)=_:=he;unfold Cg at he;split at he<;>first|(injection he with he;injection he with _ he;exact he.symm)|cases he
 case makeFunc fn first captured=>
  have he:Cf P _ fn (eI S.T H first.toList) (eI S.T H captured.toList)=_:=he;unfold Cf at he;split at he
  ·split at he
   ·cases he
   ·injection he with he;injection he with _ he;exact he.symm
  ·cases he
 case makeMap=>cases a1
 case makeSlice=>cases a1
 case slice t x cm ao qA=>
  cases qA with
  |some m=>cases he
  |none=>
   have he:qD P _ t (bj S.T H x) (jQ S.T H cm) (jQ S.T H ao)=_:=he;unfold qD at he;split at he
   ·exact Yk (fun q=>p0 q) (fun q=>dE _ q) he
   ·cases he
 case fieldAddr t x f=>
  have he:Cd P _ t f (bj S.T H x)=_:=he;unfold Cd at he;split at he
  ·exact p0 he
  ·cases he
 case field t x f=>
  have he:EW P _ f (bj S.T H x) (P.underlying t)=_:=he;unfold EW at he;split at he
  ·split at he
   ·exact p0 he
   ·cases he
  ·cases he
 case indexAddr t x i=>
  have he:zN P _ t (bj S.T H x) (bj S.T H i)=_:=he;unfold zN at he;split at he
  ·exact p0 he
  ·cases he
 case index t x i=>
  have he:zM P _ (bj S.T H x) (bj S.T H i) (P.underlying t)=_:=he;unfold zM at he;split at he
  ·split at he
   ·exact p0 he
   ·cases he
  ·split at he
   ·split at he
    ·exact L7 he
    ·cases he
   ·cases he
  ·cases he
 case typeAssert x t a ok=>
  have he:zQ P _ a ok (bj S.T H x)=_:=he;unfold zQ at he;split at he
  ·exact p0 he
  ·cases he
 case extract x aW=>
  have he:Cc P _ aW (bj S.T H x)=_:=he;unfold Cc at he;split at he
  ·exact p0 he
  ·cases he
 case call c=>
  have he:kU P _ c=_:=he;obtain⟨callee,args,argTypes⟩:=c;unfold kU at he;cases callee with
  |value f=>cases aC
  |invoke r m=>cases aC
  |builtin b=>
   simp only at he aC;unfold pw at he;split at he
   ·cases he
   ·cases b<;>simp only at aC<;>first|cases aC|skip
    all_goals simp only at he
    all_goals first
     |exact dE _ he
     |skip
    all_goals (
     split at he
     all_goals first
      |contradiction
      |exact dE _ he
      |(cases he;done)
      |(cases he;rfl)
      |skip
     all_goals (
      split at he
      all_goals first
       |contradiction
       |exact dE _ he
       |(cases he;done)
       |(cases he;rfl)
       |exact abS he
       |(split at he<;>first|(cases he;done)|exact L7 he)
       |(split at he<;>first|(cases he;done)|(cases he;rfl))))
 all_goals first|(cases aC;done)|(cases he;done)
end
end
end Go.Cre

/- A part of the proof of TableClose. -/
import Derived.Test.YtpahonhejmlnpaaGreatDoorCak
import Derived.Orders
set_option linter.unusedVariables false
set_option linter.unusedSimpArgs false
namespace Go.Cre
noncomputable section
open Go.RowKit
def g7(μ:bz)(c bw:List PanicEntry):Prop:=c.length=bw.length/\∀(i:Nat) e bk,c[i]?=some e->bw[i]?=some bk->bk.recovered=e.recovered/\bk.goexit=e.goexit/\bc μ e.v bk.v
def ms(μ:bz):FrameMode->FrameMode->Prop
 |.run,.run=>True
 |.returning,.returning=>True
 |.panicking c,.panicking bw=>g7 μ c bw
 |_,_=>False
def Ca(μ:bz)(d ih:Deferred):Prop:=
 (∃jd cap dx,d.target=.fn jd cap/\ih.target=.fn jd dx/\s7 jd=true/\bF μ cap.toList dx.toList/\bF μ d.args.toList ih.args.toList)\/(∃r L,d.target=.collected r/\μ r=some L/\ih.target=.collected L.r)
inductive pE (μ:bz):List Deferred->List Deferred->Prop
 |nil:pE μ [] []
 |cons (d ih:Deferred) (l l':List Deferred):Ca μ d ih->pE μ l l'->pE μ (d::l) (ih::l')
def y9(μ:bz):Ending->Ending->Prop
 |.returned v,.returned v'=>bc μ v v'
 |.panicked c,.panicked bw=>g7 μ c bw
 |_,_=>False
section
variable {P:Program}{B:Nat->Prop}{w0 w:World}{μ bd:bz}{H H':ai}
theorem g7.mono{c bw:List PanicEntry}(h:g7 μ c bw)(e:Ext μ bd):g7 bd c bw:=⟨h.1,fun i a b x y=>by obtain⟨p,q,r⟩:=h.2 i a b x y;exact⟨p,q,r.mono e⟩⟩
theorem ms.mono{m m':FrameMode}(h:ms μ m m')(e:Ext μ bd):ms bd m m':=by
 cases m<;>cases m'<;>first|trivial|exact h.elim|exact g7.mono h e
theorem Ca.mono{d ih:Deferred}(h:Ca μ d ih)(e:Ext μ bd):Ca bd d ih:=by
 rcases h with⟨jd,cap,dx,aa,ab,aY,bu,gI⟩|⟨r,L,aa,ab,aY⟩
 ·exact .inl ⟨jd,cap,dx,aa,ab,aY,bu.mono e,gI.mono e⟩
 ·exact .inr ⟨r,L,aa,e _ _ ab,aY⟩
theorem pE.mono{l l':List Deferred}(h:pE μ l l')(e:Ext μ bd):pE bd l l':=by
 induction h with
 |nil=>exact .nil
 |cons d ih l l' au _ aP=>exact .cons d ih l l' (au.mono e) aP
theorem g7.single{v v':Value}(h:bc μ v v'):g7 μ [{v:=v,recovered:=false}] [{v:=v',recovered:=false}]:=
 ⟨rfl,fun i e bk x y=>by
  cases i with
  |zero=>simp at x y;subst x;subst y;exact⟨rfl,rfl,h⟩
  |succ i=>simp at x⟩
structure gO (μ:bz) (S:aT) (fr:Frame) (tmps:Array Value) (ds:List Deferred) (cs:List Frame):Prop where
 t:iE μ S.T S.n tmps
 d:pE μ S.ds ds
 kind:fr.kind=if S.bB then .deferred else .normal
 rY:S.b8=none->fr.roundOf=none
 wD:∀l,S.b8=some l->∃L,μ l=some L/\fr.roundOf=some L.r
 bf:S.bB=true->∃c rest,cs=c::rest/\ms μ S.bf c.mode
theorem gO.mono{S:aT}{fr:Frame}{tmps:Array Value}{ds:List Deferred}{cs:List Frame}(h:gO μ S fr tmps ds cs)(e:Ext μ bd):gO bd S fr tmps ds cs:=
 ⟨h.t.mono e,h.d.mono e,h.kind,h.rY,fun l q=>by obtain⟨L,a,b⟩:=h.wD l q;exact⟨L,e _ _ a,b⟩,fun q=>by obtain⟨c,r,a,b⟩:=h.bf q;exact⟨c,r,a,b.mono e⟩⟩
def iA(d:Bool)(cs cw:List Frame):Prop:=if d then ∃c rest m,cs=c::rest/\cw={c with mode:=m}::rest else cw=cs
theorem iA.refl(d:Bool)(cs:List Frame)(h:d=true->∃c rest,cs=c::rest):iA d cs cs:=by
 cases d with
 |false=>rfl
 |true=>obtain⟨c,rest,rfl⟩:=h rfl;exact⟨c,rest,c.mode,rfl,rfl⟩
theorem iA.trans{d:Bool}{a b c:List Frame}(h:iA d a b)(k:iA d b c):iA d a c:=by
 cases d with
 |false=>exact Eq.trans k h
 |true=>
  obtain⟨x,rest,m,rfl,rfl⟩:=h;obtain⟨y,tg,m',e,rfl⟩:=k;injection e with aC aZ;subst aC;subst aZ
  exact⟨x,rest,m',rfl,rfl⟩
def nc(P:Program)(B:Nat->Prop)(w0:World)(call:ed):Prop:=
 ∀f args H e H',call f args H=some (e,H')->∀μ w b5,bL P B w0 μ H w->bF μ args b5->
  (∃v v' a7 bd,e=.returned v/\(callFunc f b5.toArray).run P w=.ok (.value v') a7/\bL P B w0 bd H' a7/\Step μ bd H H'/\bc bd v v')\/
  ((callFunc f b5.toArray).run P w=.ok (.enter f b5.toArray) w/\Calls P f b5.toArray w (fun bk a7=>∃bd,bL P B w0 bd H' a7/\Step μ bd H H'/\y9 bd e bk))
def tA(P:Program)(B:Nat->Prop)(w0:World)(aE:fX):Prop:=
 ∀l args H e H',aE l args H=some (e,H')->∀μ w L b5,bL P B w0 μ H w->μ l=some L->bF μ args b5->
  ∃v f m8 a b,e=.returned v/\(Instr.yield L.r b5.toArray).run P w=.ok (.round L.r f m8 a b) w/\
   ∀caller cs,∃v' a7 bd,bL P B w0 bd H' a7/\Step μ bd H H'/\bc bd v v'/\Steps P (lone (Frame.round L.r f m8 a b .normal) (caller::cs) w) (lone (caller.finish v') cs a7)
theorem Nj{ops:Array Oper}{T:aQ Value}{n:Nat}{tmps:Array Value}{o:Oper}{b:Bool}(aM:iE μ T n tmps)(he:eZ ops.toList T o=some b):Region.wanted o (yielded ops tmps)=b:=by
 unfold eZ at he;unfold Region.wanted;cases aq:o.guard with
 |none=>rw[aq] at he;simp at he;exact he.symm▸rfl
 |some p=>
  obtain⟨j,want⟩:=p;rw[aq] at he;have he:rm ops.toList T (j,want)=some b:=he;simp only[rm,jU] at he;simp only[yielded];have a5:ops.toList[j]?=ops[j]?:=by simp
  rw[a5] at he;cases ao:ops[j]? with
  |none=>rw[ao] at he;simp at he;subst he;simp
  |some p=>
   rw[ao] at he;simp only at he;cases au:p.dst with
   |none=>rw[au] at he;simp at he;subst he;simp[au]
   |some d=>
    rw[au] at he;simp only at he;cases b6:T.get d with
    |none=>rw[b6] at he;simp at he
    |some v=>
     rw[b6] at he;have ay:=aM.2 d v b6;have kP:tmps[d]?=some (tmps.getD d undef)\/(tmps[d]?=none/\tmps.getD d undef=undef):=by
      rcases hr d tmps.size with q|q
      ·left;simp[q]
      ·right;simp[q]
     simp only[Ls,au];have aax:(∀c,v≠.bool c)->v≠.chan none->∀c,tmps.getD d undef≠.bool c:=fun aw hw c q=>by
      rw[q] at ay;cases ay with
      |atom _ _=>exact aw c rfl
      |to _ _=>exact hw rfl
     by_cases rI:∃c,v=.bool c
     ·obtain⟨c,rfl⟩:=rI;simp only[b9] at he;subst he;have Ao:=ay.zw;rcases kP with q|⟨_,q⟩
      ·rw[q,Ao];simp
      ·rw[q] at Ao;cases Ao
     ·have gD:∀c,v≠.bool c:=fun c q=>rI ⟨c,q⟩;have Yl:v≠.chan none:=fun q=>by rw[q] at he;cases he
      have ah:b=false:=by
       cases v<;>first|(simp only[b9] at he;exact he.symm)|exact absurd ⟨_,rfl⟩ rI|cases he
      subst ah;rcases kP with q|⟨q,_⟩
      ·rw[q];have:=aax gD Yl;cases U:tmps.getD d undef<;>first|rfl|exact absurd U (this _)
      ·rw[q];rfl
theorem Jv{S aB:aT}{fr:Frame}{tmps:Array Value}{ds:List Deferred}{cs:List Frame}{dst:Option Tmp}{v v':Value}(h:gO μ S fr tmps ds cs)(ay:bc μ v v')(he:S.put dst v=some aB):
 gO μ aB fr (qx tmps dst v') ds cs/\aB.bB=S.bB/\aB.b8=S.b8/\aB.bf=S.bf/\aB.ds=S.ds:=by
 cases dst with
 |none=>
  have he:some S=some aB:=he;injection he with he;subst he
  exact⟨h,rfl,rfl,rfl,rfl⟩
 |some d=>
  obtain⟨T,n,eY,bB,bf,b8⟩:=S;have he:Bool.rec (motive:=fun _=>Option aT) none (aT.pw n eY bB bf b8 (aQ.put v T d)) (Nat.ble (Nat.succ d) n)=some aB:=he;cases ah:Nat.ble (Nat.succ d) n with
  |false=>rw[ah] at he;cases he
  |true=>
   rw[ah] at he;have ah:=gy ah;have he:aT.pw n eY bB bf b8 (aQ.put v T d)=some aB:=he;cases ao:aQ.put v T d with
   |none=>rw[ao] at he;cases he
   |some di=>
    rw[ao] at he;have he:some (aT.mk di n eY bB bf b8)=some aB:=he;injection he with he;subst he
    refine⟨⟨⟨by have:=h.t.1;simpa[qx] using this,fun t u q=>?_⟩,h.d,h.kind,h.rY,h.wD,h.bf⟩,rfl,rfl,rfl,rfl⟩;have q:di.get t=some u:=q;rw[aQ.get_put ao] at q;have dA:n<=tmps.size:=h.t.1;show bc μ u ((tmps.setIfInBounds d v').getD t undef);by_cases Il:t=d
    ·subst Il;rw[bg rfl] at q;injection q with q;subst q
     have:(tmps.setIfInBounds t v').getD t undef=v':=by
      have:t<tmps.size:=by omega
      simp[this]
     rw[this];exact ay
    ·rw[a3 Il] at q;have:(tmps.setIfInBounds d v').getD t undef=tmps.getD t undef:=by
      simp[KE (Ne.symm Il)]
     rw[this];exact h.t.2 t u q
def jv(P:Program)(B:Nat->Prop)(w0:World)(μ:bz)(H:ai)(S:aT)(fr:Frame)(cs:List Frame)(m:Machine)(todo:List Item):c6->Prop
 |.ok aB H'=>∃bd a7 fS en cw,bL P B w0 bd H' a7/\Step μ bd H H'/\gO bd aB fr fS en cw/\iA S.bB cs cw/\aB.bB=S.bB/\aB.b8=S.b8/\Steps P m (lone (bt fr fS en todo) cw a7)
 |.h9 chain aB H'=>∃bd a7 fS en cw zF lk,bL P B w0 bd H' a7/\Step μ bd H H'/\gO bd aB fr fS en cw/\iA S.bB cs cw/\aB.bB=S.bB/\aB.b8=S.b8/\g7 bd chain zF/\
  Steps P m (lone {bt fr fS en lk with mode:=.panicking zF} cw a7)
end
end
end Go.Cre
namespace Go.Cre
noncomputable section
open Go.RowKit
section
variable {P:Program}{B:Nat->Prop}{w0 w:World}{μ:bz}{H H':ai}{S:aT}{fr:Frame}{tmps:Array Value}{ds:List Deferred}{cs:List Frame}{call:ed}{aE:fX}
variable {ops:Array Oper}{i:Nat}{rest:List Nat}{k:List Item}{o:Oper}
theorem gO.ry(az:gO μ S fr tmps ds cs):S.bB=true->∃c rest,cs=c::rest:=fun q=>by obtain⟨c,r,a,_⟩:=az.bf q;exact⟨c,r,a⟩
theorem UJ{r:cv}(he:ct P call aE S H o=some r){c:Call}(ag:o.op=.defer c):S.b8=none:=by
 unfold ct eA at he;simp only at he;rw[ag] at he;have he:rV P ⟨call,aE,S,H,o⟩ c=some r:=he;unfold rV at he;cases al:S.b8 with
 |none=>rfl
 |some l=>simp only[al] at he;cases he
theorem wB{v v':Value}{bd:bz}{H':ai}{a7:World}{m:Machine}{bV:c6}(az:gO bd S fr tmps ds cs)(gB:bL P B w0 bd H' a7)(af:Step μ bd H H')(ay:bc bd v v')
 (dM:Steps P m (lone (bt fr (qx tmps o.dst v') ds (.inRegion ops rest::k)) cs a7))(he:km S o.dst v H'=some bV):jv P B w0 μ H S fr cs m (.inRegion ops rest::k) bV:=by
 unfold km m3 at he;cases ao:S.put o.dst v with
 |none=>rw[ao] at he;cases he
 |some aB=>
  rw[ao] at he;have he:some (c6.ok aB H')=some bV:=he;injection he with he;subst he
  obtain⟨a,b,c,_,_⟩:=Jv az ay ao;exact⟨bd,a7,_,ds,cs,gB,af,a,iA.refl _ _ az.ry,b,c,dM⟩
theorem jv.congr{S a1:aT}{m:Machine}{todo:List Item}{bV:c6}(aa:a1.bB=S.bB)(ab:a1.b8=S.b8)(h:jv P B w0 μ H a1 fr cs m todo bV):jv P B w0 μ H S fr cs m todo bV:=by
 cases bV with
 |ok aB H'=>obtain⟨a,b,c,d,e,cm,cn,cR,fk,e9,fY,fJ⟩:=h;exact⟨a,b,c,d,e,cm,cn,cR,aa▸fk,e9.trans aa,fY.trans ab,fJ⟩
 |h9 chain aB H'=>obtain⟨a,b,c,d,e,x,y,cm,cn,cR,fk,e9,fY,fJ,nt⟩:=h;exact⟨a,b,c,d,e,x,y,cm,cn,cR,aa▸fk,e9.trans aa,fY.trans ab,fJ,nt⟩
theorem adA{ops:Array Oper}{i:Nat}{rest:List Nat}{o:Oper}{a7:World}{v:Value}{cw:List Frame}(ag:ops[i]?=some o)(hw:Region.wanted o (yielded ops tmps)=true)(kU:fr.roundOf=none)
 (al:(execOp (cQ tmps) o).run P w=.ok .recover a7)(aM:(tryRecover (bt fr tmps ds (.inRegion ops (i::rest)::k)) cs).getD (.nilIface,cs)=(v,cw)):
 step P (lone (bt fr tmps ds (.inRegion ops (i::rest)::k)) cs w)=.next (lone (bt fr (qx tmps o.dst v) ds (.inRegion ops rest::k)) cw a7):=by
 rw[<-vy ag];refine step_lone_go ?_;rw[wF ag hw (.inl kU)];have Oq:(bt fr tmps ds (.inRegion ops (i::rest)::k)).roundOf=none:=kU;cases U:tryRecover (bt fr tmps ds (.inRegion ops (i::rest)::k)) cs with
 |none=>
  rw[U] at aM;simp at aM;obtain⟨rfl,rfl⟩:=aM;simp[stepG.apply,al,Oq,U]
 |some p=>
  obtain⟨v1,fs⟩:=p;rw[U] at aM;simp at aM;obtain⟨rfl,rfl⟩:=aM;simp[stepG.apply,al,Oq,U]
theorem acA{ops:Array Oper}{i:Nat}{rest:List Nat}{v:Value}{bf:FrameMode}(az:gO μ S fr tmps ds cs)(he:oC S=some (v,bf)):
 ∃v' cw,(tryRecover (bt fr tmps ds (.inRegion ops (i::rest)::k)) cs).getD (.nilIface,cs)=(v',cw)/\bc μ v v'/\gO μ (S.tp bf) fr tmps ds cw/\iA S.bB cs cw/\fr.roundOf=none:=by
 unfold oC at he;cases kU:S.b8 with
 |some l=>rw[kU] at he;cases he
 |none=>
  rw[kU] at he;have dL:=az.rY kU;obtain⟨T,n,eY,bB,BS,b8⟩:=S;cases bB with
  |false=>
   simp only[da] at he;injection he with he;injection he with aC aZ;subst aC;subst aZ
   have hk:(bt fr tmps ds (.inRegion ops (i::rest)::k)).kind=.normal:=az.kind;have:tryRecover (bt fr tmps ds (.inRegion ops (i::rest)::k)) cs=none:=by
    cases cs<;>simp[tryRecover,hk]
   rw[this];exact⟨_,_,rfl,bc.atom _ rfl,az,rfl,dL⟩
  |true=>
   simp only[b1] at he;have hk:(bt fr tmps ds (.inRegion ops (i::rest)::k)).kind=.deferred:=az.kind;obtain⟨c,wE,rfl,hm⟩:=az.bf rfl;rw[tryRecover_deferred hk];have gD:recoverD (c::wE)=none->v=.nilIface->bf=BS->∃v' cw,(recoverD (c::wE)).getD (.nilIface,c::wE)=(v',cw)/\bc μ v v'/\gO μ (aT.tp bf ⟨T,n,eY,true,BS,b8⟩) fr tmps ds cw/\iA true (c::wE) cw/\fr.roundOf=none:=by
    intro aa ab aY;subst ab;subst aY;rw[aa];exact⟨_,_,rfl,bc.atom _ rfl,az,⟨c,wE,c.mode,rfl,rfl⟩,dL⟩
   cases Iq:BS with
   |run=>
    subst Iq;simp only at he;injection he with he;injection he with aC aZ
    refine gD ?_ aC.symm aZ.symm;cases n':c.mode<;>rw[n'] at hm<;>first|exact hm.elim|simp[recoverD,n']
   |returning=>
    subst Iq;simp only at he;injection he with he;injection he with aC aZ
    refine gD ?_ aC.symm aZ.symm;cases n':c.mode<;>rw[n'] at hm<;>first|exact hm.elim|simp[recoverD,n']
   |panicking cf=>
    subst Iq;cases n':c.mode with
    |run=>rw[n'] at hm;exact hm.elim
    |returning=>rw[n'] at hm;exact hm.elim
    |panicking vh=>
     rw[n'] at hm;have hm:g7 μ cf vh:=hm;cases cf with
     |nil=>
      have:vh=[]:=pH hm.1.symm;subst this;simp only at he;injection he with he;injection he with aC aZ
      exact gD (by simp[recoverD,n']) aC.symm aZ.symm
     |cons x Em=>
      cases vh with
      |nil=>have:=hm.1;simp at this
      |cons dg aba=>
       obtain⟨bx,bX,cy⟩:=hm.2 0 x dg rfl rfl;obtain⟨wR,afa,ae'⟩:=x;obtain⟨Kt,Ks,R5⟩:=dg;simp only at bx bX cy;subst bx;subst bX;cases Ks with
       |true=>
        simp only at he;injection he with he;injection he with aC aZ
        exact gD (by simp[recoverD,n']) aC.symm aZ.symm
       |false=>
        cases R5 with
        |true=>
         simp only at he;injection he with he;injection he with aC aZ
         exact gD (by simp[recoverD,n']) aC.symm aZ.symm
        |false=>
         simp only at he;injection he with he;injection he with aC aZ
         subst aC;subst aZ;refine⟨Kt,{c with mode:=.panicking ({v:=Kt,recovered:=true}::aba)}::wE,by simp[recoverD,n'],cy,⟨az.t,az.d,az.kind,az.rY,az.wD,fun _=>⟨_,_,rfl,?_⟩⟩,⟨c,wE,_,rfl,rfl⟩,dL⟩;refine⟨by have:=hm.1;simpa using this,fun j e bk q c3=>?_⟩;cases j with
         |zero=>simp at q c3;subst q;subst c3;exact⟨rfl,rfl,cy⟩
         |succ j=>exact hm.2 (j+1) e bk (by simpa using q) (by simpa using c3)
theorem yA(hf:nc P B w0 call)(mP:tA P B w0 aE)(h:bL P B w0 μ H w)(az:gO μ S fr tmps ds cs)(ag:ops[i]?=some o){bV:c6}(he:one P call aE ops.toList S H o=some bV):
 jv P B w0 μ H S fr cs (lone (bt fr tmps ds (.inRegion ops (i::rest)::k)) cs w) (.inRegion ops rest::k) bV:=by
 unfold one at he;cases aq:eZ ops.toList S.T o with
 |none=>rw[aq] at he;cases he
 |some b=>
  rw[aq] at he;have hw:=Nj az.t aq;cases b with
  |false=>
   have he:km S o.dst undef H=some bV:=he;exact wB az h (Step.refl _ _) (bc.undef μ) (.one (adG ag hw)) he
  |true=>
   have he:oy S H o.dst (ct P call aE S H o)=some bV:=he;cases dC:ct P call aE S H o with
   |none=>rw[dC] at he;cases he
   |some r=>
    rw[dC] at he;have he:PX S H o.dst r=some bV:=he;have hN:=VC h az.t dC;have dz:fr.roundOf=none\/∀c,o.op≠.defer c:=by
     by_cases au:∃c,o.op=.defer c
     ·obtain⟨c,au⟩:=au;exact .inl (az.rY (UJ dC au))
     ·exact .inr fun c q=>au ⟨c,q⟩
    cases r with
    |val v H1=>
     have he:km S o.dst v H1=some bV:=he;rcases hN with⟨v',a7,bd,cX,cM,fo,ix⟩|⟨f,args,b5,cX,cM,fo⟩|⟨l,L,args,b5,px,cX,cM,fo⟩
     ·exact wB (az.mono fo.ext) cM fo ix (.one (JX ag hw dz cX)) he
     ·rcases hf f args H _ _ fo μ w b5 h cM with⟨jm,v',a7,bd,aC,aZ,cJ,eo,cp⟩|⟨aC,aZ⟩
      ·injection aC with aC;subst aC
       exact wB (az.mono eo.ext) cJ eo cp (.one (JX ag hw dz (cX.trans aZ))) he
      ·obtain⟨bk,a7,M1,⟨bd,cm,cn,cR⟩,xO,_,x0⟩:=aZ (bt fr tmps ds (.inRegion ops (i::rest)::k)::cs);cases bk with
       |returned v'=>
        refine wB (az.mono cn.ext) cm cn cR ?_ he;rw[<-vy ag];exact .head (Q' ag hw dz (cX.trans aC)) (Steps.trans xO (.one (step_leave_returned x0)))
       |panicked c=>exact cR.elim
       |outgrown=>exact cR.elim
     ·obtain⟨jm,f,m8,a,b,aC,aZ,cJ⟩:=mP l args H _ _ fo μ w L b5 h px cM;injection aC with aC;subst aC
      obtain⟨v',a7,bd,cm,cn,cR,fk⟩:=cJ (bt fr tmps ds (.inRegion ops (i::rest)::k)) cs;refine wB (az.mono cn.ext) cm cn cR ?_ he;rw[<-vy ag];exact .head (adC ag hw dz (cX.trans aZ)) fk
    |skip H1=>
     have he:km S o.dst undef H1=some bV:=he;obtain⟨a7,cX,cM,fo⟩:=hN;exact wB az cM fo (bc.undef μ) (.one (adF ag hw dz cX)) he
    |ft d=>
     have he:wj S H o.dst d=some bV:=he;unfold wj at he;cases H9:S.b8 with
     |some l=>rw[H9] at he;cases he
     |none=>
     rw[H9] at he;have he:km (S.yY d) o.dst undef H=some bV:=he;obtain⟨jd,cap,dx,args,b5,rfl,cX,cM,fo,ix⟩:=hN;have kU:fr.roundOf=none:=az.rY H9;obtain⟨T,n,eY,bB,bf,b8⟩:=S
     have Hx:gO μ (aT.yY {target:=.fn jd cap,args:=args.toArray} ⟨T,n,eY,bB,bf,b8⟩) fr tmps ({target:=.fn jd dx,args:=b5.toArray}::ds) cs:=
      ⟨az.t,.cons _ _ _ _ (.inl ⟨jd,cap,dx,rfl,rfl,cM,fo,by simpa using ix⟩) az.d,az.kind,az.rY,az.wD,az.bf⟩
     exact jv.congr (a1:=aT.yY {target:=.fn jd cap,args:=args.toArray} ⟨T,n,eY,bB,bf,b8⟩) rfl rfl (wB Hx h (Step.refl _ _) (bc.undef μ) (.one (adm ag hw kU cX)) he)
    |h9 chain H1=>
     have he:some (c6.h9 chain S H1)=some bV:=he;injection he with he;subst he
     rcases hN with⟨v,v',rfl,rfl,cX,cM⟩|⟨f,args,b5,cX,cM,fo⟩
     ·exact⟨μ,w,tmps,ds,cs,_,_,h,Step.refl _ _,az,iA.refl _ _ az.ry,rfl,rfl,g7.single cM,.one (adw ag hw dz cX)⟩
     ·rcases hf f args H _ _ fo μ w b5 h cM with⟨jm,v',a7,bd,aC,_⟩|⟨aC,aZ⟩
      ·cases aC
      ·obtain⟨bk,a7,M1,⟨bd,cm,cn,cR⟩,xO,_,x0⟩:=aZ (bt fr tmps ds (.inRegion ops (i::rest)::k)::cs);cases bk with
       |returned v'=>exact cR.elim
       |panicked c=>
        refine⟨bd,a7,tmps,ds,cs,c,.inRegion ops (i::rest)::k,cm,cn,az.mono cn.ext,iA.refl _ _ az.ry,rfl,rfl,cR,?_⟩;exact .head (Q' ag hw dz (cX.trans aC)) (Steps.trans xO (.one (step_leave_panicked x0)))
       |outgrown=>exact cR.elim
    |wz=>
     have he:Bu S H o.dst (oC S)=some bV:=he;cases x8:oC S with
     |none=>rw[x8] at he;cases he
     |some p=>
      obtain⟨v,bf⟩:=p;rw[x8] at he;have he:km (S.tp bf) o.dst v H=some bV:=he;obtain⟨v',cw,t1,t2,t3,t4,t5⟩:=acA (k:=k) (ops:=ops) (i:=i) (rest:=rest) az x8;unfold km m3 at he;cases ao:(S.tp bf).put o.dst v with
      |none=>rw[ao] at he;cases he
      |some aB=>
       rw[ao] at he;have he:some (c6.ok aB H)=some bV:=he;injection he with he;subst he
       obtain⟨a,b,c,_,_⟩:=Jv t3 t2 ao;exact⟨μ,w,_,ds,cw,h,Step.refl _ _,a,t4,b,c,.one (adA ag hw t5 hN t1)⟩
end
end
end Go.Cre
namespace Go.Cre
noncomputable section
open Go.RowKit
section
variable {P:Program}{B:Nat->Prop}{w0 w:World}{μ:bz}{H H':ai}{S:aT}{fr:Frame}{tmps:Array Value}{ds:List Deferred}{cs:List Frame}{call:ed}{aE:fX}
variable {ops:Array Oper}{k:List Item}
theorem jv.steps{m m':Machine}{todo:List Item}{bV:c6}(af:Steps P m m')(h:jv P B w0 μ H S fr cs m' todo bV):jv P B w0 μ H S fr cs m todo bV:=by
 cases bV with
 |ok aB H'=>obtain⟨a,b,c,d,e,cm,cn,cR,fk,e9,fY,fJ⟩:=h;exact⟨a,b,c,d,e,cm,cn,cR,fk,e9,fY,af.trans fJ⟩
 |h9 chain aB H'=>obtain⟨a,b,c,d,e,x,y,cm,cn,cR,fk,e9,fY,fJ,nt⟩:=h;exact⟨a,b,c,d,e,x,y,cm,cn,cR,fk,e9,fY,fJ,af.trans nt⟩
theorem jv.bind{a1:aT}{H1:ai}{m:Machine}{Rp Rq:List Item}{bV:c6}(h:jv P B w0 μ H S fr cs m Rp (.ok a1 H1))
 (hk:∀eE bh uL rh fs,bL P B w0 eE H1 bh->Step μ eE H H1->gO eE a1 fr uL rh fs->iA S.bB cs fs->a1.bB=S.bB->a1.b8=S.b8->jv P B w0 eE H1 a1 fr fs (lone (bt fr uL rh Rp) fs bh) Rq bV):jv P B w0 μ H S fr cs m Rq bV:=by
 obtain⟨eE,bh,uL,rh,fs,cm,cn,cR,fk,e9,fY,fJ⟩:=h;have cS:=(hk eE bh uL rh fs cm cn cR fk e9 fY).steps fJ;cases bV with
 |ok aB H'=>obtain⟨a,b,c,d,e,aR,aN,bG,dd,fm,ho,mf⟩:=cS;exact⟨a,b,c,d,e,aR,cn.trans aN,bG,fk.trans (e9▸dd),fm.trans e9,ho.trans fY,mf⟩
 |h9 chain aB H'=>obtain⟨a,b,c,d,e,x,y,aR,aN,bG,dd,fm,ho,mf,m2⟩:=cS;exact⟨a,b,c,d,e,x,y,aR,cn.trans aN,bG,fk.trans (e9▸dd),fm.trans e9,ho.trans fY,mf,m2⟩
theorem VD(hf:nc P B w0 call)(mP:tA P B w0 aE)(l:List Oper):∀(i:Nat) (μ:bz) (w:World) (S:aT) (H:ai) (tmps:Array Value) (ds:List Deferred) (cs:List Frame) (bV:c6),
 ops.toList.drop i=l->bL P B w0 μ H w->gO μ S fr tmps ds cs->xo P call aE ops.toList l S H=some bV->
 jv P B w0 μ H S fr cs (lone (bt fr tmps ds (.inRegion ops (List.range' i l.length)::k)) cs w) k bV:=by
 induction l with
 |nil=>
  intro i μ w S H tmps ds cs bV _ h az he;have he:some (c6.ok S H)=some bV:=he;injection he with he;subst he
  exact⟨μ,w,tmps,ds,cs,h,Step.refl _ _,az,iA.refl _ _ az.ry,rfl,rfl,.one JV⟩
 |cons o l aP=>
  intro i μ w S H tmps ds cs bV au h az he;have he:MT (xo P call aE ops.toList l) (one P call aE ops.toList S H o)=some bV:=he;have ag:ops[i]?=some o:=by
   have:(ops.toList.drop i)[0]?=some o:=by rw[au];rfl
   simpa using this
  have vO:ops.toList.drop (i+1)=l:=by
   have:(ops.toList.drop i).drop 1=l:=by rw[au];rfl
   rw[ze] at this;exact this
  show jv P B w0 μ H S fr cs (lone (bt fr tmps ds (.inRegion ops (i::List.range' (i+1) l.length)::k)) cs w) k bV;cases kR:one P call aE ops.toList S H o with
  |none=>rw[kR] at he;cases he
  |some cX=>
   rw[kR] at he;have aa:=yA (k:=k) (rest:=List.range' (i+1) l.length) hf mP h az ag kR;cases cX with
   |h9 chain a1 H1=>
    have he:some (c6.h9 chain a1 H1)=some bV:=he;injection he with he;subst he
    exact aa
   |ok a1 H1=>
    have he:xo P call aE ops.toList l a1 H1=some bV:=he;exact aa.bind fun eE bh uL rh fs cm _ cR _ _ _=>aP (i+1) eE bh a1 H1 uL rh fs bV vO cm cR he
end
end
end Go.Cre
namespace Go.Cre
noncomputable section
open Go.RowKit
section
variable {P:Program}{H:ai}{S aB:aT}{o:Oper}{call:ed}{aE:fX}
theorem Bz{T di:aQ Value}:∀{l:List Operand},(∀x∈l,aW di H x=aW T H x)->eQ di H l=eQ T H l:=by
 intro l;induction l with
 |nil=>intro _;rfl
 |cons x l aP=>
  intro h;simp only[eQ];rw[h x (by simp),aP fun y aF=>h y (by simp[aF])]
theorem P8{T di:aQ Value}:∀{l:List (Nat×Operand)},(∀x∈l.map (·.2),aW di H x=aW T H x)->jF di H l=jF T H l:=by
 intro l;induction l with
 |nil=>intro _;rfl
 |cons x l aP=>
  intro h;obtain⟨i,x⟩:=x;simp only[jF];rw[h x (by simp),aP fun y aF=>h y (by simp at aF ⊢;exact .inr aF)]
theorem VE{T di:aQ Value}(af:∀cs b,o.op≠.select cs b)(h:∀x∈o.op.operands,aW di H x=aW T H x):eI P di H o=eI P T H o:=by
 unfold eI;rw[Bz fun x U=>h x (by simpa using U)];have:execOp (oA di H) o=execOp (oA T H) o:=execOp_congr o af fun x U=>by unfold oA;rw[h x U]
 rw[this]
theorem P0{T di:aQ Value}{x:Option Operand}(h:∀y∈x.toArray,aW di H y=aW T H y):g4 di H x=g4 T H x:=by
 cases x with
 |none=>rfl
 |some x=>simp only[g4];rw[h x (by simp)]
theorem CT(al:aB.b8=S.b8)(h:∀x∈o.op.operands,aW aB.T H x=aW S.T H x):ct P call aE aB H o=ct P call aE S H o:=by
 have ei:(∀cs b,o.op≠.select cs b)->eI P aB.T H o=eI P S.T H o:=fun af=>VE af h;unfold ct eA;obtain⟨dst,op,type,pos,after,guard⟩:=o;simp only at h ei;cases op<;>simp only[Op.operands] at h<;>simp only
 case move x=>show fT (aW aB.T H x) H=fT (aW S.T H x) H;rw[h x (by simp)]
 case assign x=>show fT (aW aB.T H x) H=fT (aW S.T H x) H;rw[h x (by simp)]
 case pick c a b=>
  show uB P _ a b (aW aB.T H c)=uB P _ a b (aW S.T H c);rw[h c (by simp)];have aC:aW aB.T H a=aW S.T H a:=h a (by simp);have aZ:aW aB.T H b=aW S.T H b:=h b (by simp);unfold uB dF.aW;simp only[aC,aZ]
 case alloc e=>rfl
 case box e x=>show Bw P _ e (aW aB.T H x)=Bw P _ e (aW S.T H x);rw[h x (by simp)];rfl
 case build t ps=>show wk P _ t (jF aB.T H ps.toList)=wk P _ t (jF S.T H ps.toList);rw[P8 fun x U=>h x (by simpa using U)];rfl
 case buildSlice t n ps=>show Bx P _ t n (jF aB.T H ps.toList)=Bx P _ t n (jF S.T H ps.toList);rw[P8 fun x U=>h x (by simpa using U)];rfl
 case load t a=>show wq P _ t (aW aB.T H a)=wq P _ t (aW S.T H a);rw[h a (by simp)];rfl
 case store t a v=>show yB P _ t (aW aB.T H a) (aW aB.T H v)=yB P _ t (aW S.T H a) (aW S.T H v);rw[h a (by simp),h v (by simp)];rfl
 case nilCheck x=>show wx P _ (aW aB.T H x)=wx P _ (aW S.T H x);rw[h x (by simp)];rfl
 case binOp op t x y u=>
  have ao:=ei (fun _ _=>by simp);show jV P _ op t (aW aB.T H x) (aW aB.T H y)=jV P _ op t (aW S.T H x) (aW S.T H y);rw[h x (by simp),h y (by simp)];have yb:∀a b,qt P ⟨call,aE,aB,H,⟨dst,.binOp op t x y u,type,pos,after,guard⟩⟩ op t a b=qt P ⟨call,aE,S,H,⟨dst,.binOp op t x y u,type,pos,after,guard⟩⟩ op t a b:=fun a b=>by
   unfold qt dF.lO;simp only[ao];unfold rU;rfl
  unfold jV Jn dF.lO;simp only[ao,yb]
 case unOp op t x=>
  have ao:=ei (fun _ _=>by simp);exact ao
 case convert s d x=>
  have ao:=ei (fun _ _=>by simp);show tb P _ s d (aW aB.T H x)=tb P _ s d (aW S.T H x);rw[h x (by simp)];unfold tb dF.lO;simp only[ao]
 case makeInterface t x=>show wv P _ t (aW aB.T H x) _=wv P _ t (aW S.T H x) _;rw[h x (by simp)];rfl
 case makeFunc fn first captured=>
  show wu P _ fn (eQ aB.T H first.toList) (eQ aB.T H captured.toList)=wu P _ fn (eQ S.T H first.toList) (eQ S.T H captured.toList);rw[Bz fun x U=>h x (by simp at U;simp[U]),Bz fun x U=>h x (by simp at U;simp[U])];rfl
 case makeSlice t l c=>show By P _ t (aW aB.T H l) (aW aB.T H c)=By P _ t (aW S.T H l) (aW S.T H c);rw[h l (by simp),h c (by simp)];rfl
 case slice t x gE ar Bh=>
  have ao:=ei (fun _ _=>by simp);cases Bh with
  |some m=>rfl
  |none=>
   show lN P _ t (aW aB.T H x) (g4 aB.T H gE) (g4 aB.T H ar)=lN P _ t (aW S.T H x) (g4 S.T H gE) (g4 S.T H ar);rw[h x (by simp),P0 (x:=gE) fun y aF=>h y (by simp at aF;simp[aF]),P0 (x:=ar) fun y aF=>h y (by simp at aF;simp[aF])];unfold lN dF.lO;simp only[ao]
 case fieldAddr t x f=>show wo P _ t f (aW aB.T H x)=wo P _ t f (aW S.T H x);rw[h x (by simp)];rfl
 case field t x f=>show uz P _ f (aW aB.T H x) _=uz P _ f (aW S.T H x) _;rw[h x (by simp)];rfl
 case indexAddr t x i=>show tc P _ t (aW aB.T H x) (aW aB.T H i)=tc P _ t (aW S.T H x) (aW S.T H i);rw[h x (by simp),h i (by simp)];rfl
 case index t x i=>show uA P _ (aW aB.T H x) (aW aB.T H i) _=uA P _ (aW S.T H x) (aW S.T H i) _;rw[h x (by simp),h i (by simp)];rfl
 case typeAssert x t a ok=>show yC P _ a ok (aW aB.T H x)=yC P _ a ok (aW S.T H x);rw[h x (by simp)];rfl
 case extract x bj=>show wm P _ bj (aW aB.T H x)=wm P _ bj (aW S.T H x);rw[h x (by simp)];rfl
 case call c=>
  have ao:=ei (fun _ _=>by simp);have mJ:eQ aB.T H c.args.toList=eQ S.T H c.args.toList:=Bz fun x U=>h x (by simp[Call.operands,y7.1 U]);show jW P _ c=jW P _ c;unfold jW;cases aL:c.callee with
  |builtin b=>
   simp only
   unfold n3;simp only[mJ,ao]
  |value f=>
   have az:aW aB.T H f=aW S.T H f:=h f (by simp[Call.operands,aL]);simp only
   unfold mE;simp only[mJ,aL,az]
  |invoke r m=>
   have az:aW aB.T H r=aW S.T H r:=h r (by simp[Call.operands,aL]);simp only
   unfold mE;simp only[mJ,aL,az]
 case defer c=>
  have mJ:eQ aB.T H c.args.toList=eQ S.T H c.args.toList:=Bz fun x U=>h x (by simp[Call.operands,y7.1 U]);show rV P _ c=rV P _ c;unfold rV zU;simp only[al,mJ];cases aL:c.callee with
  |builtin b=>rfl
  |value f=>
   have az:aW aB.T H f=aW S.T H f:=h f (by simp[Call.operands,aL]);simp only[az]
  |invoke r m=>
   have az:aW aB.T H r=aW S.T H r:=h r (by simp[Call.operands,aL]);simp only[az]
 case panic x=>show Eo P _ (aW aB.T H x)=Eo P _ (aW S.T H x);rw[h x (by simp)];rfl
end
end
end Go.Cre
namespace Go.Cre
noncomputable section
open Go.RowKit
section
variable {P:Program}{H H':ai}{S aB:aT}{o:Oper}{call:ed}{aE:fX}{v:Value}
theorem m9{x:Option Value}(he:fT x H=some (.val v H')):H'=H:=by
 cases x with
 |none=>cases he
 |some x=>have he:some (cv.val x H)=some (.val v H'):=he;injection he with he;injection he with _ he;exact he.symm
theorem VF{T:aQ Value}(he:eI P T H o=some (.val v H')):H'=H:=by
 unfold eI at he;cases aa:eQ T H o.op.operands.toList with
 |none=>rw[aa] at he;cases he
 |some vs=>
  rw[aa] at he;cases ab:vs.all plain with
  |false=>simp only[ab] at he;cases he
  |true=>
   simp only[ab,b1] at he;cases aY:eJ P (execOp (oA T H) o) with
   |none=>rw[aY] at he;cases he
   |some r=>
    rw[aY] at he;cases r with
    |value u=>
     simp only at he;cases bu:plain u with
     |false=>rw[bu] at he;cases he
     |true=>rw[bu] at he;injection he with he;injection he with _ he;exact he.symm
    |skip=>injection he with he;cases he
    |_=>cases he
theorem P2{a b:Option cv}(aK:a=some (.val v H')->H'=H)(ah:b=some (.val v H')->H'=H)(he:orElse a b=some (.val v H')):H'=H:=by
 cases a with
 |none=>exact ah he
 |some a=>exact aK he
theorem EC{n:Int}{k:IntKind}(he:n5 n (m5 H k)=some (.val v H')):H'=H:=by
 rcases n with(_|m)|(_|m)<;>(injection he with he;injection he with _ he;exact he.symm)
theorem acM{b:Bool}(he:th H b=some (.val v H')):H'=H:=by
 cases b<;>(injection he with he;injection he with _ he;exact he.symm)
theorem Tt{b:Bool}{u:Value}(h:(bif b then none else some (cv.val u H))=some (.val v H')):H'=H:=by
 cases b<;>simp at h;exact h.2.symm
theorem MS(aL:ym o.op=false)(aK:um o.op=false)(he:ct P call aE S H o=some (.val v H'))(jg:H'.ax=H.ax):H'=H:=by
 unfold ct eA at he;obtain⟨dst,op,type,pos,after,guard⟩:=o;have ei:∀o',eI P S.T H o'=some (.val v H')->H'=H:=fun o' q=>VF q;cases op<;>simp only[ym,um] at aL aK<;>simp only at he
 case move x=>exact m9 (x:=aW S.T H x) he
 case assign x=>exact m9 (x:=aW S.T H x) he
 case pick c a b=>
  have he:uB P _ a b (aW S.T H c)=_:=he;unfold uB at he;split at he
  ·exact m9 he
  ·exact m9 he
  ·cases he
 case alloc=>cases aK
 case box=>cases aK
 case build t ps=>
  have he:wk P _ t (jF S.T H ps.toList)=_:=he;unfold wk at he;split at he
  ·exact m9 he
  ·cases he
 case buildSlice=>cases aK
 case load t a=>
  have he:wq P _ t (aW S.T H a)=_:=he;unfold wq at he;split at he
  ·exact m9 he
  ·cases he
 case nilCheck x=>
  have he:wx P _ (aW S.T H x)=_:=he;unfold wx at he;split at he<;>first|(injection he with he;injection he with _ he;exact he.symm)|cases he
 case binOp op t x y u=>
  have he:jV P _ op t (aW S.T H x) (aW S.T H y)=_:=he;have yb:∀X:dF,X.H=H->X.S=S->∀a b,qt P X op t a b=some (.val v H')->H'=H:=fun X fl ak a b q=>by
   unfold qt at q;refine P2 (fun q=>?_) (fun q=>?_) q
   ·unfold dF.lO at q;rw[fl,ak] at q;exact ei _ q
   ·unfold rU at q;split at q
    ·split at q
     ·injection q with q;injection q with _ q;rw[<-q,fl]
     ·cases q
    ·split at q
     ·injection q with q;injection q with _ q;rw[<-q,fl]
     ·cases q
    ·cases q
  unfold jV at he;split at he
  ·unfold Jn at he;rename_i k a l b _ _;cases hk:jR k l with
   |false=>rw[hk,da] at he;exact yb _ (by rfl) (by rfl) _ _ he
   |true=>
    rw[hk,b1] at he;unfold ir at he;split at he<;>first|exact EC he|exact acM he|exact ei _ he
  ·exact yb _ (by rfl) (by rfl) _ _ he
  ·cases he
 case unOp op t x=>exact ei _ he
 case convert s d x=>
  have he:tb P _ s d (aW S.T H x)=_:=he;unfold tb at he;split at he
  ·cases he
  ·rename_i acZ _;cases ay:sy P H s d acZ with
   |none=>rw[ay] at he;exact ei _ he
   |some p=>
    obtain⟨u,H1⟩:=p;rw[ay] at he;have he:some (cv.val u H1)=some (.val v H'):=he;injection he with he;injection he with _ he;subst he
    have:=VK ay;omega
  ·exact m9 he
  ·exact m9 he
  ·split at he
   ·exact EC he
   ·exact ei _ he
  ·exact ei _ he
 case makeInterface t x=>
  have he:wv P _ t (aW S.T H x) (P.underlying t)=_:=he;unfold wv at he;split at he<;>first|(injection he with he;injection he with _ he;exact he.symm)|cases he
 case makeFunc fn first captured=>
  have he:wu P _ fn (eQ S.T H first.toList) (eQ S.T H captured.toList)=_:=he;unfold wu at he;split at he
  ·split at he
   ·cases he
   ·injection he with he;injection he with _ he;exact he.symm
  ·cases he
 case makeMap=>cases aK
 case makeSlice=>cases aK
 case slice t x gE ar Bh=>
  cases Bh with
  |some m=>cases he
  |none=>
   have he:lN P _ t (aW S.T H x) (g4 S.T H gE) (g4 S.T H ar)=_:=he;unfold lN at he;split at he
   ·exact P2 (fun q=>m9 q) (fun q=>ei _ q) he
   ·cases he
 case fieldAddr t x f=>
  have he:wo P _ t f (aW S.T H x)=_:=he;unfold wo at he;split at he
  ·exact m9 he
  ·cases he
 case field t x f=>
  have he:uz P _ f (aW S.T H x) (P.underlying t)=_:=he;unfold uz at he;split at he
  ·split at he
   ·exact m9 he
   ·cases he
  ·cases he
 case indexAddr t x i=>
  have he:tc P _ t (aW S.T H x) (aW S.T H i)=_:=he;unfold tc at he;split at he
  ·exact m9 he
  ·cases he
 case index t x i=>
  have he:uA P _ (aW S.T H x) (aW S.T H i) (P.underlying t)=_:=he;unfold uA at he;split at he
  ·split at he
   ·exact m9 he
   ·cases he
  ·split at he
   ·split at he
    ·exact EC he
    ·cases he
   ·cases he
  ·cases he
 case typeAssert x t a ok=>
  have he:yC P _ a ok (aW S.T H x)=_:=he;unfold yC at he;split at he
  ·exact m9 he
  ·cases he
 case extract x bj=>
  have he:wm P _ bj (aW S.T H x)=_:=he;unfold wm at he;split at he
  ·exact m9 he
  ·cases he
 case call c=>
  have he:jW P _ c=_:=he;obtain⟨callee,args,argTypes⟩:=c;unfold jW at he;cases callee with
  |value f=>cases aL
  |invoke r m=>cases aL
  |builtin b=>
   simp only at he aL;unfold n3 at he;split at he
   ·cases he
   ·cases b<;>simp only at aL<;>first|cases aL|skip
    all_goals simp only at he
    all_goals first
     |exact ei _ he
     |skip
    all_goals (
     split at he
     all_goals first
      |contradiction
      |exact ei _ he
      |(cases he;done)
      |(cases he;rfl)
      |skip
     all_goals (
      split at he
      all_goals first
       |contradiction
       |exact ei _ he
       |(cases he;done)
       |(cases he;rfl)
       |exact Tt he
       |(split at he<;>first|(cases he;done)|exact EC he)
       |(split at he<;>first|(cases he;done)|(cases he;rfl))))
 all_goals first|(cases aL;done)|(cases he;done)
end
end
end Go.Cre

/- A part of the proof of TableMetric. -/
import Derived.Test.YtmmfodofkbmfnaaGreatDoorCak
import Derived.Orders
set_option linter.unusedVariables false
set_option linter.unusedSimpArgs false
namespace Go.Cre
noncomputable section
open Go.RowKit
def gD(μ:bm)(c bo:List PanicEntry):Prop:=c.length=bo.length/\∀(i:Nat) e bl,c[i]?=some e->bo[i]?=some bl->bl.recovered=e.recovered/\bl.goexit=e.goexit/\a3 μ e.v bl.v
def kZ(μ:bm):FrameMode->FrameMode->Prop
 |.run,.run=>True
 |.returning,.returning=>True
 |.panicking c,.panicking bo=>gD μ c bo
 |_,_=>False
def Ak(μ:bm)(d ht:Deferred):Prop:=
 (∃h9 cap c',d.target=.fn h9 cap/\ht.target=.fn h9 c'/\q4 h9=true/\bp μ cap.toList c'.toList/\bp μ d.args.toList ht.args.toList)\/(∃r L,d.target=.collected r/\μ r=some L/\ht.target=.collected L.r)
inductive nU (μ:bm):List Deferred->List Deferred->Prop
 |nil:nU μ [] []
 |cons (d ht:Deferred) (l l':List Deferred):Ak μ d ht->nU μ l l'->nU μ (d::l) (ht::l')
def xl(μ:bm):Ending->Ending->Prop
 |.returned v,.returned v'=>a3 μ v v'
 |.panicked c,.panicked bo=>gD μ c bo
 |_,_=>False
section
variable {P:Program}{B:Nat->Prop}{w0 w:World}{μ a4:bm}{H H':ah}
theorem gD.mono{c bo:List PanicEntry}(h:gD μ c bo)(e:Ext μ a4):gD a4 c bo:=⟨h.1,fun i a b x y=>by obtain⟨p,q,r⟩:=h.2 i a b x y;exact⟨p,q,r.mono e⟩⟩
theorem kZ.mono{m m':FrameMode}(h:kZ μ m m')(e:Ext μ a4):kZ a4 m m':=by
 cases m<;>cases m'<;>first|trivial|exact h.elim|exact gD.mono h e
theorem Ak.mono{d ht:Deferred}(h:Ak μ d ht)(e:Ext μ a4):Ak a4 d ht:=by
 rcases h with⟨h9,cap,c',U,ab,aV,br,gq⟩|⟨r,L,U,ab,aV⟩
 ·exact .inl ⟨h9,cap,c',U,ab,aV,br.mono e,gq.mono e⟩
 ·exact .inr ⟨r,L,U,e _ _ ab,aV⟩
theorem nU.mono{l l':List Deferred}(h:nU μ l l')(e:Ext μ a4):nU a4 l l':=by
 induction h with
 |nil=>exact .nil
 |cons d ht l l' ax _ aN=>exact .cons d ht l l' (ax.mono e) aN
theorem gD.single{v v':Value}(h:a3 μ v v'):gD μ [{v:=v,recovered:=false}] [{v:=v',recovered:=false}]:=
 ⟨rfl,fun i e bl x y=>by
  cases i with
  |zero=>simp at x y;subst x;subst y;exact⟨rfl,rfl,h⟩
  |succ i=>simp at x⟩
structure fZ (μ:bm) (S:aO) (fr:Frame) (tmps:Array Value) (ds:List Deferred) (cs:List Frame):Prop where
 t:hI μ S.T S.n tmps
 d:nU μ S.ds ds
 kind:fr.kind=if S.bu then .deferred else .normal
 pW:S.b3=none->fr.roundOf=none
 uM:∀l,S.b3=some l->∃L,μ l=some L/\fr.roundOf=some L.r
 a7:S.bu=true->∃c rest,cs=c::rest/\kZ μ S.a7 c.mode
theorem fZ.mono{S:aO}{fr:Frame}{tmps:Array Value}{ds:List Deferred}{cs:List Frame}(h:fZ μ S fr tmps ds cs)(e:Ext μ a4):fZ a4 S fr tmps ds cs:=
 ⟨h.t.mono e,h.d.mono e,h.kind,h.pW,fun l q=>by obtain⟨L,a,b⟩:=h.uM l q;exact⟨L,e _ _ a,b⟩,fun q=>by obtain⟨c,r,a,b⟩:=h.a7 q;exact⟨c,r,a,b.mono e⟩⟩
def hF(d:Bool)(cs cb:List Frame):Prop:=if d then ∃c rest m,cs=c::rest/\cb={c with mode:=m}::rest else cb=cs
theorem hF.refl(d:Bool)(cs:List Frame)(h:d=true->∃c rest,cs=c::rest):hF d cs cs:=by
 cases d with
 |false=>rfl
 |true=>obtain⟨c,rest,rfl⟩:=h rfl;exact⟨c,rest,c.mode,rfl,rfl⟩
theorem hF.trans{d:Bool}{a b c:List Frame}(h:hF d a b)(k:hF d b c):hF d a c:=by
 cases d with
 |false=>exact Eq.trans k h
 |true=>
  obtain⟨x,rest,m,rfl,rfl⟩:=h;obtain⟨y,re,m',e,rfl⟩:=k;injection e with aA aW;subst aA;subst aW
  exact⟨x,rest,m',rfl,rfl⟩
def lA(P:Program)(B:Nat->Prop)(w0:World)(call:dI):Prop:=
 ∀f args H e H',call f args H=some (e,H')->∀μ w bJ,bz P B w0 μ H w->bp μ args bJ->
  (∃v v' aZ a4,e=.returned v/\(callFunc f bJ.toArray).run P w=.ok (.value v') aZ/\bz P B w0 a4 H' aZ/\Step μ a4 H H'/\a3 a4 v v')\/
  ((callFunc f bJ.toArray).run P w=.ok (.enter f bJ.toArray) w/\Calls P f bJ.toArray w (fun bl aZ=>∃a4,bz P B w0 a4 H' aZ/\Step μ a4 H H'/\xl a4 e bl))
def rM(P:Program)(B:Nat->Prop)(w0:World)(az:ff):Prop:=
 ∀l args H e H',az l args H=some (e,H')->∀μ w L bJ,bz P B w0 μ H w->μ l=some L->bp μ args bJ->
  ∃v f lr a b,e=.returned v/\(Instr.yield L.r bJ.toArray).run P w=.ok (.round L.r f lr a b) w/\
   ∀caller cs,∃v' aZ a4,bz P B w0 a4 H' aZ/\Step μ a4 H H'/\a3 a4 v v'/\Steps P (lone (Frame.round L.r f lr a b .normal) (caller::cs) w) (lone (caller.finish v') cs aZ)
theorem JS{ops:Array Oper}{T:aL Value}{n:Nat}{tmps:Array Value}{o:Oper}{b:Bool}(aG:hI μ T n tmps)(he:eI ops.toList T o=some b):Region.wanted o (yielded ops tmps)=b:=by
 unfold eI at he;unfold Region.wanted;cases ar:o.guard with
 |none=>rw[ar] at he;simp at he;exact he.symm▸rfl
 |some p=>
  obtain⟨aa,want⟩:=p;rw[ar] at he;have he:po ops.toList T (aa,want)=some b:=he;simp only[po,jr] at he;simp only[yielded];have aX:ops.toList[aa]?=ops[aa]?:=by simp
  rw[aX] at he;cases ao:ops[aa]? with
  |none=>rw[ao] at he;simp at he;subst he;simp
  |some p=>
   rw[ao] at he;simp only at he;cases ax:p.dst with
   |none=>rw[ax] at he;simp at he;subst he;simp[ax]
   |some d=>
    rw[ax] at he;simp only at he;cases cw:T.get d with
    |none=>rw[cw] at he;simp at he
    |some v=>
     rw[cw] at he;have aD:=aG.2 d v cw;have jI:tmps[d]?=some (tmps.getD d undef)\/(tmps[d]?=none/\tmps.getD d undef=undef):=by
      rcases gX d tmps.size with q|q
      ·left;simp[q]
      ·right;simp[q]
     simp only[Ib,ax];have We:(∀c,v≠.bool c)->v≠.chan none->∀c,tmps.getD d undef≠.bool c:=fun aE hw c q=>by
      rw[q] at aD;cases aD with
      |atom _ _=>exact aE c rfl
      |rp _ _=>exact hw rfl
     by_cases sm:∃c,v=.bool c
     ·obtain⟨c,rfl⟩:=sm;simp only[bL] at he;subst he;have EX:=aD.xO;rcases jI with q|⟨_,q⟩
      ·rw[q,EX];simp
      ·rw[q] at EX;cases EX
     ·have gH:∀c,v≠.bool c:=fun c q=>sm ⟨c,q⟩;have T3:v≠.chan none:=fun q=>by rw[q] at he;cases he
      have af:b=false:=by
       cases v<;>first|(simp only[bL] at he;exact he.symm)|exact absurd ⟨_,rfl⟩ sm|cases he
      subst af;rcases jI with q|⟨q,_⟩
      ·rw[q];have:=We gH T3;cases j:tmps.getD d undef<;>first|rfl|exact absurd j (this _)
      ·rw[q];rfl
theorem GH{S aB:aO}{fr:Frame}{tmps:Array Value}{ds:List Deferred}{cs:List Frame}{dst:Option Tmp}{v v':Value}(h:fZ μ S fr tmps ds cs)(aD:a3 μ v v')(he:S.put dst v=some aB):
 fZ μ aB fr (oO tmps dst v') ds cs/\aB.bu=S.bu/\aB.b3=S.b3/\aB.a7=S.a7/\aB.ds=S.ds:=by
 cases dst with
 |none=>
  have he:some S=some aB:=he;injection he with he;subst he
  exact⟨h,rfl,rfl,rfl,rfl⟩
 |some d=>
  obtain⟨T,n,eD,bu,a7,b3⟩:=S;have he:Bool.rec (motive:=fun _=>Option aO) none (aO.oN n eD bu a7 b3 (aL.put v T d)) (Nat.ble (Nat.succ d) n)=some aB:=he;cases af:Nat.ble (Nat.succ d) n with
  |false=>rw[af] at he;cases he
  |true=>
   rw[af] at he;have af:=fV af;have he:aO.oN n eD bu a7 b3 (aL.put v T d)=some aB:=he;cases ao:aL.put v T d with
   |none=>rw[ao] at he;cases he
   |some dr=>
    rw[ao] at he;have he:some (aO.mk dr n eD bu a7 b3)=some aB:=he;injection he with he;subst he
    refine⟨⟨⟨by have:=h.t.1;simpa[oO] using this,fun t u q=>?_⟩,h.d,h.kind,h.pW,h.uM,h.a7⟩,rfl,rfl,rfl,rfl⟩;have q:dr.get t=some u:=q;rw[aL.get_put ao] at q;have de:n<=tmps.size:=h.t.1;show a3 μ u ((tmps.setIfInBounds d v').getD t undef);by_cases FD:t=d
    ·subst FD;rw[bs rfl] at q;injection q with q;subst q
     have:(tmps.setIfInBounds t v').getD t undef=v':=by
      have:t<tmps.size:=by omega
      simp[this]
     rw[this];exact aD
    ·rw[a1 FD] at q;have:(tmps.setIfInBounds d v').getD t undef=tmps.getD t undef:=by
      simp[Hz (Ne.symm FD)]
     rw[this];exact h.t.2 t u q
def ih(P:Program)(B:Nat->Prop)(w0:World)(μ:bm)(H:ah)(S:aO)(fr:Frame)(cs:List Frame)(m:Machine)(todo:List Item):cS->Prop
 |.ok aB H'=>∃a4 aZ e9 dT cb,bz P B w0 a4 H' aZ/\Step μ a4 H H'/\fZ a4 aB fr e9 dT cb/\hF S.bu cs cb/\aB.bu=S.bu/\aB.b3=S.b3/\Steps P m (lone (bj fr e9 dT todo) cb aZ)
 |.hj chain aB H'=>∃a4 aZ e9 dT cb xW pG,bz P B w0 a4 H' aZ/\Step μ a4 H H'/\fZ a4 aB fr e9 dT cb/\hF S.bu cs cb/\aB.bu=S.bu/\aB.b3=S.b3/\gD a4 chain xW/\
  Steps P m (lone {bj fr e9 dT pG with mode:=.panicking xW} cb aZ)
end
end
end Go.Cre
namespace Go.Cre
noncomputable section
open Go.RowKit
section
variable {P:Program}{B:Nat->Prop}{w0 w:World}{μ:bm}{H H':ah}{S:aO}{fr:Frame}{tmps:Array Value}{ds:List Deferred}{cs:List Frame}{call:dI}{az:ff}
variable {ops:Array Oper}{i:Nat}{rest:List Nat}{k:List Item}{o:Oper}
theorem fZ.pu(ay:fZ μ S fr tmps ds cs):S.bu=true->∃c rest,cs=c::rest:=fun q=>by obtain⟨c,r,a,_⟩:=ay.a7 q;exact⟨c,r,a⟩
theorem QN{r:b9}(he:cc P call az S H o=some r){c:Call}(ae:o.op=.defer c):S.b3=none:=by
 unfold cc eh at he;simp only at he;rw[ae] at he;have he:pS P ⟨call,az,S,H,o⟩ c=some r:=he;unfold pS at he;cases ap:S.b3 with
 |none=>rfl
 |some l=>simp only[ap] at he;cases he
theorem uK{v v':Value}{a4:bm}{H':ah}{aZ:World}{m:Machine}{cD:cS}(ay:fZ a4 S fr tmps ds cs)(fO:bz P B w0 a4 H' aZ)(ag:Step μ a4 H H')(aD:a3 a4 v v')
 (dA:Steps P m (lone (bj fr (oO tmps o.dst v') ds (.inRegion ops rest::k)) cs aZ))(he:jc S o.dst v H'=some cD):ih P B w0 μ H S fr cs m (.inRegion ops rest::k) cD:=by
 unfold jc mV at he;cases ao:S.put o.dst v with
 |none=>rw[ao] at he;cases he
 |some aB=>
  rw[ao] at he;have he:some (cS.ok aB H')=some cD:=he;injection he with he;subst he
  obtain⟨a,b,c,_,_⟩:=GH ay aD ao;exact⟨a4,aZ,_,ds,cs,fO,ag,a,hF.refl _ _ ay.pu,b,c,dA⟩
theorem ih.congr{S aY:aO}{m:Machine}{todo:List Item}{cD:cS}(U:aY.bu=S.bu)(ab:aY.b3=S.b3)(h:ih P B w0 μ H aY fr cs m todo cD):ih P B w0 μ H S fr cs m todo cD:=by
 cases cD with
 |ok aB H'=>obtain⟨a,b,c,d,e,b4,b0,cI,eM,eH,fg,e2⟩:=h;exact⟨a,b,c,d,e,b4,b0,cI,U▸eM,eH.trans U,fg.trans ab,e2⟩
 |hj chain aB H'=>obtain⟨a,b,c,d,e,x,y,b4,b0,cI,eM,eH,fg,e2,lM⟩:=h;exact⟨a,b,c,d,e,x,y,b4,b0,cI,U▸eM,eH.trans U,fg.trans ab,e2,lM⟩
theorem YQ{ops:Array Oper}{i:Nat}{rest:List Nat}{o:Oper}{aZ:World}{v:Value}{cb:List Frame}(ae:ops[i]?=some o)(hw:Region.wanted o (yielded ops tmps)=true)(ow:fr.roundOf=none)
 (ap:(execOp (cB tmps) o).run P w=.ok .recover aZ)(aG:(tryRecover (bj fr tmps ds (.inRegion ops (i::rest)::k)) cs).getD (.nilIface,cs)=(v,cb)):
 step P (lone (bj fr tmps ds (.inRegion ops (i::rest)::k)) cs w)=.next (lone (bj fr (oO tmps o.dst v) ds (.inRegion ops rest::k)) cb aZ):=by
 rw[<-tC ae];refine step_lone_go ?_;rw[uP ae hw (.inl ow)];have KX:(bj fr tmps ds (.inRegion ops (i::rest)::k)).roundOf=none:=ow;cases j:tryRecover (bj fr tmps ds (.inRegion ops (i::rest)::k)) cs with
 |none=>
  rw[j] at aG;simp at aG;obtain⟨rfl,rfl⟩:=aG;simp[stepG.apply,ap,KX,j]
 |some p=>
  obtain⟨v1,eP⟩:=p;rw[j] at aG;simp at aG;obtain⟨rfl,rfl⟩:=aG;simp[stepG.apply,ap,KX,j]
theorem X4{ops:Array Oper}{i:Nat}{rest:List Nat}{v:Value}{a7:FrameMode}(ay:fZ μ S fr tmps ds cs)(he:mU S=some (v,a7)):
 ∃v' cb,(tryRecover (bj fr tmps ds (.inRegion ops (i::rest)::k)) cs).getD (.nilIface,cs)=(v',cb)/\a3 μ v v'/\fZ μ (S.rq a7) fr tmps ds cb/\hF S.bu cs cb/\fr.roundOf=none:=by
 unfold mU at he;cases ow:S.b3 with
 |some l=>rw[ow] at he;cases he
 |none=>
  rw[ow] at he;have dR:=ay.pW ow;obtain⟨T,n,eD,bu,zY,b3⟩:=S;cases bu with
  |false=>
   simp only[cZ] at he;injection he with he;injection he with aA aW;subst aA;subst aW
   have hk:(bj fr tmps ds (.inRegion ops (i::rest)::k)).kind=.normal:=ay.kind;have:tryRecover (bj fr tmps ds (.inRegion ops (i::rest)::k)) cs=none:=by
    cases cs<;>simp[tryRecover,hk]
   rw[this];exact⟨_,_,rfl,a3.atom _ rfl,ay,rfl,dR⟩
  |true=>
   simp only[bH] at he;have hk:(bj fr tmps ds (.inRegion ops (i::rest)::k)).kind=.deferred:=ay.kind;obtain⟨c,uN,rfl,hm⟩:=ay.a7 rfl;rw[tryRecover_deferred hk];have gH:recoverD (c::uN)=none->v=.nilIface->a7=zY->∃v' cb,(recoverD (c::uN)).getD (.nilIface,c::uN)=(v',cb)/\a3 μ v v'/\fZ μ (aO.rq a7 ⟨T,n,eD,true,zY,b3⟩) fr tmps ds cb/\hF true (c::uN) cb/\fr.roundOf=none:=by
    intro U ab aV;subst ab;subst aV;rw[U];exact⟨_,_,rfl,a3.atom _ rfl,ay,⟨c,uN,c.mode,rfl,rfl⟩,dR⟩
   cases FH:zY with
   |run=>
    subst FH;simp only at he;injection he with he;injection he with aA aW
    refine gH ?_ aA.symm aW.symm;cases mz:c.mode<;>rw[mz] at hm<;>first|exact hm.elim|simp[recoverD,mz]
   |returning=>
    subst FH;simp only at he;injection he with he;injection he with aA aW
    refine gH ?_ aA.symm aW.symm;cases mz:c.mode<;>rw[mz] at hm<;>first|exact hm.elim|simp[recoverD,mz]
   |panicking bT=>
    subst FH;cases mz:c.mode with
    |run=>rw[mz] at hm;exact hm.elim
    |returning=>rw[mz] at hm;exact hm.elim
    |panicking tp=>
     rw[mz] at hm;have hm:gD μ bT tp:=hm;cases bT with
     |nil=>
      have:tp=[]:=nY hm.1.symm;subst this;simp only at he;injection he with he;injection he with aA aW
      exact gH (by simp[recoverD,mz]) aA.symm aW.symm
     |cons x Cn=>
      cases tp with
      |nil=>have:=hm.1;simp at this
      |cons dh WK=>
       obtain⟨bP,bS,cE⟩:=hm.2 0 x dh rfl rfl;obtain⟨uZ,aal,aak⟩:=x;obtain⟨Ho,Hn,Ok⟩:=dh;simp only at bP bS cE;subst bP;subst bS;cases Hn with
       |true=>
        simp only at he;injection he with he;injection he with aA aW
        exact gH (by simp[recoverD,mz]) aA.symm aW.symm
       |false=>
        cases Ok with
        |true=>
         simp only at he;injection he with he;injection he with aA aW
         exact gH (by simp[recoverD,mz]) aA.symm aW.symm
        |false=>
         simp only at he;injection he with he;injection he with aA aW
         subst aA;subst aW;refine⟨Ho,{c with mode:=.panicking ({v:=Ho,recovered:=true}::WK)}::uN,by simp[recoverD,mz],cE,⟨ay.t,ay.d,ay.kind,ay.pW,ay.uM,fun _=>⟨_,_,rfl,?_⟩⟩,⟨c,uN,_,rfl,rfl⟩,dR⟩;refine⟨by have:=hm.1;simpa using this,fun aa e bl q cR=>?_⟩;cases aa with
         |zero=>simp at q cR;subst q;subst cR;exact⟨rfl,rfl,cE⟩
         |succ aa=>exact hm.2 (aa+1) e bl (by simpa using q) (by simpa using cR)
theorem wN(gG:lA P B w0 call)(ld:rM P B w0 az)(h:bz P B w0 μ H w)(ay:fZ μ S fr tmps ds cs)(ae:ops[i]?=some o){cD:cS}(he:one P call az ops.toList S H o=some cD):
 ih P B w0 μ H S fr cs (lone (bj fr tmps ds (.inRegion ops (i::rest)::k)) cs w) (.inRegion ops rest::k) cD:=by
 unfold one at he;cases ar:eI ops.toList S.T o with
 |none=>rw[ar] at he;cases he
 |some b=>
  rw[ar] at he;have hw:=JS ay.t ar;cases b with
  |false=>
   have he:jc S o.dst undef H=some cD:=he;exact uK ay h (Step.refl _ _) (a3.undef μ) (.one (YW ae hw)) he
  |true=>
   have he:mR S H o.dst (cc P call az S H o)=some cD:=he;cases dd:cc P call az S H o with
   |none=>rw[dd] at he;cases he
   |some r=>
    rw[dd] at he;have he:Ml S H o.dst r=some cD:=he;have iq:=RI h ay.t dd;have dk:fr.roundOf=none\/∀c,o.op≠.defer c:=by
     by_cases ax:∃c,o.op=.defer c
     ·obtain⟨c,ax⟩:=ax;exact .inl (ay.pW (QN dd ax))
     ·exact .inr fun c q=>ax ⟨c,q⟩
    cases r with
    |val v H1=>
     have he:jc S o.dst v H1=some cD:=he;rcases iq with⟨v',aZ,a4,cJ,cW,eE,hD⟩|⟨f,args,bJ,cJ,cW,eE⟩|⟨l,L,args,bJ,wX,cJ,cW,eE⟩
     ·exact uK (ay.mono eE.ext) cW eE hD (.one (G0 ae hw dk cJ)) he
     ·rcases gG f args H _ _ eE μ w bJ h cW with⟨ig,v',aZ,a4,aA,aW,cr,dU,b5⟩|⟨aA,aW⟩
      ·injection aA with aA;subst aA
       exact uK (ay.mono dU.ext) cr dU b5 (.one (G0 ae hw dk (cJ.trans aW))) he
      ·obtain⟨bl,aZ,JD,⟨a4,b4,b0,cI⟩,vT,_,v0⟩:=aW (bj fr tmps ds (.inRegion ops (i::rest)::k)::cs);cases bl with
       |returned v'=>
        refine uK (ay.mono b0.ext) b4 b0 cI ?_ he;rw[<-tC ae];exact .head (Nk ae hw dk (cJ.trans aA)) (Steps.trans vT (.one (step_leave_returned v0)))
       |panicked c=>exact cI.elim
       |outgrown=>exact cI.elim
     ·obtain⟨ig,f,lr,a,b,aA,aW,cr⟩:=ld l args H _ _ eE μ w L bJ h wX cW;injection aA with aA;subst aA
      obtain⟨v',aZ,a4,b4,b0,cI,eM⟩:=cr (bj fr tmps ds (.inRegion ops (i::rest)::k)) cs;refine uK (ay.mono b0.ext) b4 b0 cI ?_ he;rw[<-tC ae];exact .head (YS ae hw dk (cJ.trans aW)) eM
    |skip H1=>
     have he:jc S o.dst undef H1=some cD:=he;obtain⟨aZ,cJ,cW,eE⟩:=iq;exact uK ay cW eE (a3.undef μ) (.one (YV ae hw dk cJ)) he
    |fN d=>
     have he:uz S H o.dst d=some cD:=he;unfold uz at he;cases Ft:S.b3 with
     |some l=>rw[Ft] at he;cases he
     |none=>
     rw[Ft] at he;have he:jc (S.xf d) o.dst undef H=some cD:=he;obtain⟨h9,cap,c',args,bJ,rfl,cJ,cW,eE,hD⟩:=iq;have ow:fr.roundOf=none:=ay.pW Ft;obtain⟨T,n,eD,bu,a7,b3⟩:=S
     have ES:fZ μ (aO.xf {target:=.fn h9 cap,args:=args.toArray} ⟨T,n,eD,bu,a7,b3⟩) fr tmps ({target:=.fn h9 c',args:=bJ.toArray}::ds) cs:=
      ⟨ay.t,.cons _ _ _ _ (.inl ⟨h9,cap,c',rfl,rfl,cW,eE,by simpa using hD⟩) ay.d,ay.kind,ay.pW,ay.uM,ay.a7⟩
     exact ih.congr (aY:=aO.xf {target:=.fn h9 cap,args:=args.toArray} ⟨T,n,eD,bu,a7,b3⟩) rfl rfl (uK ES h (Step.refl _ _) (a3.undef μ) (.one (YC ae hw ow cJ)) he)
    |hj chain H1=>
     have he:some (cS.hj chain S H1)=some cD:=he;injection he with he;subst he
     rcases iq with⟨v,v',rfl,rfl,cJ,cW⟩|⟨f,args,bJ,cJ,cW,eE⟩
     ·exact⟨μ,w,tmps,ds,cs,_,_,h,Step.refl _ _,ay,hF.refl _ _ ay.pu,rfl,rfl,gD.single cW,.one (YM ae hw dk cJ)⟩
     ·rcases gG f args H _ _ eE μ w bJ h cW with⟨ig,v',aZ,a4,aA,_⟩|⟨aA,aW⟩
      ·cases aA
      ·obtain⟨bl,aZ,JD,⟨a4,b4,b0,cI⟩,vT,_,v0⟩:=aW (bj fr tmps ds (.inRegion ops (i::rest)::k)::cs);cases bl with
       |returned v'=>exact cI.elim
       |panicked c=>
        refine⟨a4,aZ,tmps,ds,cs,c,.inRegion ops (i::rest)::k,b4,b0,ay.mono b0.ext,hF.refl _ _ ay.pu,rfl,rfl,cI,?_⟩;exact .head (Nk ae hw dk (cJ.trans aA)) (Steps.trans vT (.one (step_leave_panicked v0)))
       |outgrown=>exact cI.elim
    |uI=>
     have he:zF S H o.dst (mU S)=some cD:=he;cases we:mU S with
     |none=>rw[we] at he;cases he
     |some p=>
      obtain⟨v,a7⟩:=p;rw[we] at he;have he:jc (S.rq a7) o.dst v H=some cD:=he;obtain⟨v',cb,t1,t2,t3,t4,t5⟩:=X4 (k:=k) (ops:=ops) (i:=i) (rest:=rest) ay we;unfold jc mV at he;cases ao:(S.rq a7).put o.dst v with
      |none=>rw[ao] at he;cases he
      |some aB=>
       rw[ao] at he;have he:some (cS.ok aB H)=some cD:=he;injection he with he;subst he
       obtain⟨a,b,c,_,_⟩:=GH t3 t2 ao;exact⟨μ,w,_,ds,cb,h,Step.refl _ _,a,t4,b,c,.one (YQ ae hw t5 iq t1)⟩
end
end
end Go.Cre
namespace Go.Cre
noncomputable section
open Go.RowKit
section
variable {P:Program}{B:Nat->Prop}{w0 w:World}{μ:bm}{H H':ah}{S:aO}{fr:Frame}{tmps:Array Value}{ds:List Deferred}{cs:List Frame}{call:dI}{az:ff}
variable {ops:Array Oper}{k:List Item}
theorem ih.steps{m m':Machine}{todo:List Item}{cD:cS}(ag:Steps P m m')(h:ih P B w0 μ H S fr cs m' todo cD):ih P B w0 μ H S fr cs m todo cD:=by
 cases cD with
 |ok aB H'=>obtain⟨a,b,c,d,e,b4,b0,cI,eM,eH,fg,e2⟩:=h;exact⟨a,b,c,d,e,b4,b0,cI,eM,eH,fg,ag.trans e2⟩
 |hj chain aB H'=>obtain⟨a,b,c,d,e,x,y,b4,b0,cI,eM,eH,fg,e2,lM⟩:=h;exact⟨a,b,c,d,e,x,y,b4,b0,cI,eM,eH,fg,e2,ag.trans lM⟩
theorem ih.bind{aY:aO}{H1:ah}{m:Machine}{Nz NA:List Item}{cD:cS}(h:ih P B w0 μ H S fr cs m Nz (.ok aY H1))
 (hk:∀d' bc sV ph eP,bz P B w0 d' H1 bc->Step μ d' H H1->fZ d' aY fr sV ph eP->hF S.bu cs eP->aY.bu=S.bu->aY.b3=S.b3->ih P B w0 d' H1 aY fr eP (lone (bj fr sV ph Nz) eP bc) NA cD):ih P B w0 μ H S fr cs m NA cD:=by
 obtain⟨d',bc,sV,ph,eP,b4,b0,cI,eM,eH,fg,e2⟩:=h;have cF:=(hk d' bc sV ph eP b4 b0 cI eM eH fg).steps e2;cases cD with
 |ok aB H'=>obtain⟨a,b,c,d,e,aQ,aP,bC,dp,gi,iO,nJ⟩:=cF;exact⟨a,b,c,d,e,aQ,b0.trans aP,bC,eM.trans (eH▸dp),gi.trans eH,iO.trans fg,nJ⟩
 |hj chain aB H'=>obtain⟨a,b,c,d,e,x,y,aQ,aP,bC,dp,gi,iO,nJ,rb⟩:=cF;exact⟨a,b,c,d,e,x,y,aQ,b0.trans aP,bC,eM.trans (eH▸dp),gi.trans eH,iO.trans fg,nJ,rb⟩
theorem RJ(gG:lA P B w0 call)(ld:rM P B w0 az)(l:List Oper):∀(i:Nat) (μ:bm) (w:World) (S:aO) (H:ah) (tmps:Array Value) (ds:List Deferred) (cs:List Frame) (cD:cS),
 ops.toList.drop i=l->bz P B w0 μ H w->fZ μ S fr tmps ds cs->vz P call az ops.toList l S H=some cD->
 ih P B w0 μ H S fr cs (lone (bj fr tmps ds (.inRegion ops (List.range' i l.length)::k)) cs w) k cD:=by
 induction l with
 |nil=>
  intro i μ w S H tmps ds cs cD _ h ay he;have he:some (cS.ok S H)=some cD:=he;injection he with he;subst he
  exact⟨μ,w,tmps,ds,cs,h,Step.refl _ _,ay,hF.refl _ _ ay.pu,rfl,rfl,.one GY⟩
 |cons o l aN=>
  intro i μ w S H tmps ds cs cD ax h ay he;have he:Ju (vz P call az ops.toList l) (one P call az ops.toList S H o)=some cD:=he;have ae:ops[i]?=some o:=by
   have:(ops.toList.drop i)[0]?=some o:=by rw[ax];rfl
   simpa using this
  have tS:ops.toList.drop (i+1)=l:=by
   have:(ops.toList.drop i).drop 1=l:=by rw[ax];rfl
   rw[xv] at this;exact this
  show ih P B w0 μ H S fr cs (lone (bj fr tmps ds (.inRegion ops (i::List.range' (i+1) l.length)::k)) cs w) k cD;cases iL:one P call az ops.toList S H o with
  |none=>rw[iL] at he;cases he
  |some cJ=>
   rw[iL] at he;have U:=wN (k:=k) (rest:=List.range' (i+1) l.length) gG ld h ay ae iL;cases cJ with
   |hj chain aY H1=>
    have he:some (cS.hj chain aY H1)=some cD:=he;injection he with he;subst he
    exact U
   |ok aY H1=>
    have he:vz P call az ops.toList l aY H1=some cD:=he;exact U.bind fun d' bc sV ph eP b4 _ cI _ _ _=>aN (i+1) d' bc aY H1 sV ph eP cD tS b4 cI he
end
end
end Go.Cre
namespace Go.Cre
noncomputable section
open Go.RowKit
section
variable {P:Program}{H:ah}{S aB:aO}{o:Oper}{call:dI}{az:ff}
theorem zK{T dr:aL Value}:∀{l:List Operand},(∀x∈l,aR dr H x=aR T H x)->ev dr H l=ev T H l:=by
 intro l;induction l with
 |nil=>intro _;rfl
 |cons x l aN=>
  intro h;simp only[ev];rw[h x (by simp),aN fun y aC=>h y (by simp[aC])]
theorem Mv{T dr:aL Value}:∀{l:List (Nat×Operand)},(∀x∈l.map (·.2),aR dr H x=aR T H x)->iw dr H l=iw T H l:=by
 intro l;induction l with
 |nil=>intro _;rfl
 |cons x l aN=>
  intro h;obtain⟨i,x⟩:=x;simp only[iw];rw[h x (by simp),aN fun y aC=>h y (by simp at aC ⊢;exact .inr aC)]
theorem RK{T dr:aL Value}(ag:∀cs b,o.op≠.select cs b)(h:∀x∈o.op.operands,aR dr H x=aR T H x):ek P dr H o=ek P T H o:=by
 unfold ek;rw[zK fun x j=>h x (by simpa using j)];have:execOp (mS dr H) o=execOp (mS T H) o:=execOp_congr o ag fun x j=>by unfold mS;rw[h x j]
 rw[this]
theorem Mp{T dr:aL Value}{x:Option Operand}(h:∀y∈x.toArray,aR dr H y=aR T H y):gA dr H x=gA T H x:=by
 cases x with
 |none=>rfl
 |some x=>simp only[gA];rw[h x (by simp)]
theorem A8(ap:aB.b3=S.b3)(h:∀x∈o.op.operands,aR aB.T H x=aR S.T H x):cc P call az aB H o=cc P call az S H o:=by
 have dO:(∀cs b,o.op≠.select cs b)->ek P aB.T H o=ek P S.T H o:=fun ag=>RK ag h;unfold cc eh;obtain⟨dst,op,type,pos,after,guard⟩:=o;simp only at h dO;cases op<;>simp only[Op.operands] at h<;>simp only
 case move x=>show e' (aR aB.T H x) H=e' (aR S.T H x) H;rw[h x (by simp)]
 case assign x=>show e' (aR aB.T H x) H=e' (aR S.T H x) H;rw[h x (by simp)]
 case pick c a b=>
  show sJ P _ a b (aR aB.T H c)=sJ P _ a b (aR S.T H c);rw[h c (by simp)];have aA:aR aB.T H a=aR S.T H a:=h a (by simp);have aW:aR aB.T H b=aR S.T H b:=h b (by simp);unfold sJ df.aR;simp only[aA,aW]
 case alloc e=>rfl
 case box e x=>show zH P _ e (aR aB.T H x)=zH P _ e (aR S.T H x);rw[h x (by simp)];rfl
 case build t ps=>show uA P _ t (iw aB.T H ps.toList)=uA P _ t (iw S.T H ps.toList);rw[Mv fun x j=>h x (by simpa using j)];rfl
 case buildSlice t n ps=>show zI P _ t n (iw aB.T H ps.toList)=zI P _ t n (iw S.T H ps.toList);rw[Mv fun x j=>h x (by simpa using j)];rfl
 case load t a=>show uD P _ t (aR aB.T H a)=uD P _ t (aR S.T H a);rw[h a (by simp)];rfl
 case store t a v=>show wO P _ t (aR aB.T H a) (aR aB.T H v)=wO P _ t (aR S.T H a) (aR S.T H v);rw[h a (by simp),h v (by simp)];rfl
 case nilCheck x=>show uG P _ (aR aB.T H x)=uG P _ (aR S.T H x);rw[h x (by simp)];rfl
 case binOp op t x y u=>
  have ao:=dO (fun _ _=>by simp);show ja P _ op t (aR aB.T H x) (aR aB.T H y)=ja P _ op t (aR S.T H x) (aR S.T H y);rw[h x (by simp),h y (by simp)];have wj:∀a b,oL P ⟨call,az,aB,H,⟨dst,.binOp op t x y u,type,pos,after,guard⟩⟩ op t a b=oL P ⟨call,az,S,H,⟨dst,.binOp op t x y u,type,pos,after,guard⟩⟩ op t a b:=fun a b=>by
   unfold oL df.kx;simp only[ao];unfold pR;rfl
  unfold ja Gz df.kx;simp only[ao,wj]
 case unOp op t x=>
  have ao:=dO (fun _ _=>by simp);exact ao
 case convert s d x=>
  have ao:=dO (fun _ _=>by simp);show q7 P _ s d (aR aB.T H x)=q7 P _ s d (aR S.T H x);rw[h x (by simp)];unfold q7 df.kx;simp only[ao]
 case makeInterface t x=>show uF P _ t (aR aB.T H x) _=uF P _ t (aR S.T H x) _;rw[h x (by simp)];rfl
 case makeFunc fn first captured=>
  show uE P _ fn (ev aB.T H first.toList) (ev aB.T H captured.toList)=uE P _ fn (ev S.T H first.toList) (ev S.T H captured.toList);rw[zK fun x j=>h x (by simp at j;simp[j]),zK fun x j=>h x (by simp at j;simp[j])];rfl
 case makeSlice t l c=>show zJ P _ t (aR aB.T H l) (aR aB.T H c)=zJ P _ t (aR S.T H l) (aR S.T H c);rw[h l (by simp),h c (by simp)];rfl
 case slice t x fR aq zt=>
  have ao:=dO (fun _ _=>by simp);cases zt with
  |some m=>rfl
  |none=>
   show kv P _ t (aR aB.T H x) (gA aB.T H fR) (gA aB.T H aq)=kv P _ t (aR S.T H x) (gA S.T H fR) (gA S.T H aq);rw[h x (by simp),Mp (x:=fR) fun y aC=>h y (by simp at aC;simp[aC]),Mp (x:=aq) fun y aC=>h y (by simp at aC;simp[aC])];unfold kv df.kx;simp only[ao]
 case fieldAddr t x f=>show uC P _ t f (aR aB.T H x)=uC P _ t f (aR S.T H x);rw[h x (by simp)];rfl
 case field t x f=>show sH P _ f (aR aB.T H x) _=sH P _ f (aR S.T H x) _;rw[h x (by simp)];rfl
 case indexAddr t x i=>show q8 P _ t (aR aB.T H x) (aR aB.T H i)=q8 P _ t (aR S.T H x) (aR S.T H i);rw[h x (by simp),h i (by simp)];rfl
 case index t x i=>show sI P _ (aR aB.T H x) (aR aB.T H i) _=sI P _ (aR S.T H x) (aR S.T H i) _;rw[h x (by simp),h i (by simp)];rfl
 case typeAssert x t a ok=>show wP P _ a ok (aR aB.T H x)=wP P _ a ok (aR S.T H x);rw[h x (by simp)];rfl
 case extract x bw=>show uB P _ bw (aR aB.T H x)=uB P _ bw (aR S.T H x);rw[h x (by simp)];rfl
 case call c=>
  have ao:=dO (fun _ _=>by simp);have k8:ev aB.T H c.args.toList=ev S.T H c.args.toList:=zK fun x j=>h x (by simp[Call.operands,xk.1 j]);show js P _ c=js P _ c;unfold js;cases aF:c.callee with
  |builtin b=>
   simp only
   unfold mr;simp only[k8,ao]
  |value f=>
   have ay:aR aB.T H f=aR S.T H f:=h f (by simp[Call.operands,aF]);simp only
   unfold ms;simp only[k8,aF,ay]
  |invoke r m=>
   have ay:aR aB.T H r=aR S.T H r:=h r (by simp[Call.operands,aF]);simp only
   unfold ms;simp only[k8,aF,ay]
 case defer c=>
  have k8:ev aB.T H c.args.toList=ev S.T H c.args.toList:=zK fun x j=>h x (by simp[Call.operands,xk.1 j]);show pS P _ c=pS P _ c;unfold pS ya;simp only[ap,k8];cases aF:c.callee with
  |builtin b=>rfl
  |value f=>
   have ay:aR aB.T H f=aR S.T H f:=h f (by simp[Call.operands,aF]);simp only[ay]
  |invoke r m=>
   have ay:aR aB.T H r=aR S.T H r:=h r (by simp[Call.operands,aF]);simp only[ay]
 case panic x=>show Co P _ (aR aB.T H x)=Co P _ (aR S.T H x);rw[h x (by simp)];rfl
end
end
end Go.Cre
namespace Go.Cre
noncomputable section
open Go.RowKit
section
variable {P:Program}{H H':ah}{S aB:aO}{o:Oper}{call:dI}{az:ff}{v:Value}
theorem lv{x:Option Value}(he:e' x H=some (.val v H')):H'=H:=by
 cases x with
 |none=>cases he
 |some x=>have he:some (b9.val x H)=some (.val v H'):=he;injection he with he;injection he with _ he;exact he.symm
theorem RL{T:aL Value}(he:ek P T H o=some (.val v H')):H'=H:=by
 unfold ek at he;cases U:ev T H o.op.operands.toList with
 |none=>rw[U] at he;cases he
 |some vs=>
  rw[U] at he;cases ab:vs.all plain with
  |false=>simp only[ab] at he;cases he
  |true=>
   simp only[ab,bH] at he;cases aV:en P (execOp (mS T H) o) with
   |none=>rw[aV] at he;cases he
   |some r=>
    rw[aV] at he;cases r with
    |value u=>
     simp only at he;cases br:plain u with
     |false=>rw[br] at he;cases he
     |true=>rw[br] at he;injection he with he;injection he with _ he;exact he.symm
    |skip=>injection he with he;cases he
    |_=>cases he
theorem Mr{a b:Option b9}(aK:a=some (.val v H')->H'=H)(af:b=some (.val v H')->H'=H)(he:orElse a b=some (.val v H')):H'=H:=by
 cases a with
 |none=>exact af he
 |some a=>exact aK he
theorem CB{n:Int}{k:IntKind}(he:mv n (ln H k)=some (.val v H')):H'=H:=by
 rcases n with(_|m)|(_|m)<;>(injection he with he;injection he with _ he;exact he.symm)
theorem Yd{b:Bool}(he:rf H b=some (.val v H')):H'=H:=by
 cases b<;>(injection he with he;injection he with _ he;exact he.symm)
theorem PD{b:Bool}{u:Value}(h:(bif b then none else some (b9.val u H))=some (.val v H')):H'=H:=by
 cases b<;>simp at h;exact h.2.symm
theorem Jt(aF:wA o.op=false)(aK:sr o.op=false)(he:cc P call az S H o=some (.val v H'))(ib:H'.av=H.av):H'=H:=by
 unfold cc eh at he;obtain⟨dst,op,type,pos,after,guard⟩:=o;have dO:∀o',ek P S.T H o'=some (.val v H')->H'=H:=fun o' q=>RL q;cases op<;>simp only[wA,sr] at aF aK<;>simp only at he
 case move x=>exact lv (x:=aR S.T H x) he
 case assign x=>exact lv (x:=aR S.T H x) he
 case pick c a b=>
  have he:sJ P _ a b (aR S.T H c)=_:=he;unfold sJ at he;split at he
  ·exact lv he
  ·exact lv he
  ·cases he
 case alloc=>cases aK
 case box=>cases aK
 case build t ps=>
  have he:uA P _ t (iw S.T H ps.toList)=_:=he;unfold uA at he;split at he
  ·exact lv he
  ·cases he
 case buildSlice=>cases aK
 case load t a=>
  have he:uD P _ t (aR S.T H a)=_:=he;unfold uD at he;split at he
  ·exact lv he
  ·cases he
 case nilCheck x=>
  have he:uG P _ (aR S.T H x)=_:=he;unfold uG at he;split at he<;>first|(injection he with he;injection he with _ he;exact he.symm)|cases he
 case binOp op t x y u=>
  have he:ja P _ op t (aR S.T H x) (aR S.T H y)=_:=he;have wj:∀X:df,X.H=H->X.S=S->∀a b,oL P X op t a b=some (.val v H')->H'=H:=fun X fA al a b q=>by
   unfold oL at q;refine Mr (fun q=>?_) (fun q=>?_) q
   ·unfold df.kx at q;rw[fA,al] at q;exact dO _ q
   ·unfold pR at q;split at q
    ·split at q
     ·injection q with q;injection q with _ q;rw[<-q,fA]
     ·cases q
    ·split at q
     ·injection q with q;injection q with _ q;rw[<-q,fA]
     ·cases q
    ·cases q
  unfold ja at he;split at he
  ·unfold Gz at he;rename_i k a l b _ _;cases hk:kr k l with
   |false=>rw[hk,cZ] at he;exact wj _ (by rfl) (by rfl) _ _ he
   |true=>
    rw[hk,bH] at he;unfold h1 at he;split at he<;>first|exact CB he|exact Yd he|exact dO _ he
  ·exact wj _ (by rfl) (by rfl) _ _ he
  ·cases he
 case unOp op t x=>exact dO _ he
 case convert s d x=>
  have he:q7 P _ s d (aR S.T H x)=_:=he;unfold q7 at he;split at he
  ·cases he
  ·rename_i Yj _;cases aD:qA P H s d Yj with
   |none=>rw[aD] at he;exact dO _ he
   |some p=>
    obtain⟨u,H1⟩:=p;rw[aD] at he;have he:some (b9.val u H1)=some (.val v H'):=he;injection he with he;injection he with _ he;subst he
    have:=RQ aD;omega
  ·exact lv he
  ·exact lv he
  ·split at he
   ·exact CB he
   ·exact dO _ he
  ·exact dO _ he
 case makeInterface t x=>
  have he:uF P _ t (aR S.T H x) (P.underlying t)=_:=he;unfold uF at he;split at he<;>first|(injection he with he;injection he with _ he;exact he.symm)|cases he
 case makeFunc fn first captured=>
  have he:uE P _ fn (ev S.T H first.toList) (ev S.T H captured.toList)=_:=he;unfold uE at he;split at he
  ·split at he
   ·cases he
   ·injection he with he;injection he with _ he;exact he.symm
  ·cases he
 case makeMap=>cases aK
 case makeSlice=>cases aK
 case slice t x fR aq zt=>
  cases zt with
  |some m=>cases he
  |none=>
   have he:kv P _ t (aR S.T H x) (gA S.T H fR) (gA S.T H aq)=_:=he;unfold kv at he;split at he
   ·exact Mr (fun q=>lv q) (fun q=>dO _ q) he
   ·cases he
 case fieldAddr t x f=>
  have he:uC P _ t f (aR S.T H x)=_:=he;unfold uC at he;split at he
  ·exact lv he
  ·cases he
 case field t x f=>
  have he:sH P _ f (aR S.T H x) (P.underlying t)=_:=he;unfold sH at he;split at he
  ·split at he
   ·exact lv he
   ·cases he
  ·cases he
 case indexAddr t x i=>
  have he:q8 P _ t (aR S.T H x) (aR S.T H i)=_:=he;unfold q8 at he;split at he
  ·exact lv he
  ·cases he
 case index t x i=>
  have he:sI P _ (aR S.T H x) (aR S.T H i) (P.underlying t)=_:=he;unfold sI at he;split at he
  ·split at he
   ·exact lv he
   ·cases he
  ·split at he
   ·split at he
    ·exact CB he
    ·cases he
   ·cases he
  ·cases he
 case typeAssert x t a ok=>
  have he:wP P _ a ok (aR S.T H x)=_:=he;unfold wP at he;split at he
  ·exact lv he
  ·cases he
 case extract x bw=>
  have he:uB P _ bw (aR S.T H x)=_:=he;unfold uB at he;split at he
  ·exact lv he
  ·cases he
 case call c=>
  have he:js P _ c=_:=he;obtain⟨callee,args,argTypes⟩:=c;unfold js at he;cases callee with
  |value f=>cases aF
  |invoke r m=>cases aF
  |builtin b=>
   simp only at he aF;unfold mr at he;split at he
   ·cases he
   ·cases b<;>simp only at aF<;>first|cases aF|skip
    all_goals simp only at he
    all_goals first
     |exact dO _ he
     |skip
    all_goals (
     split at he
     all_goals first
      |contradiction
      |exact dO _ he
      |(cases he;done)
      |(cases he;rfl)
      |skip
     all_goals (
      split at he
      all_goals first
       |contradiction
       |exact dO _ he
       |(cases he;done)
       |(cases he;rfl)
       |exact PD he
       |(split at he<;>first|(cases he;done)|exact CB he)
       |(split at he<;>first|(cases he;done)|(cases he;rfl))))
 all_goals first|(cases aF;done)|(cases he;done)
end
end
end Go.Cre

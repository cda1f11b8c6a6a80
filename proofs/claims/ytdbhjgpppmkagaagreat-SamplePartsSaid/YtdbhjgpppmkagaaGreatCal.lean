/- A part of the proof of SampleParts. -/
import Derived.Test.YtdbhjgpppmkagaaGreatCak
import Derived.Orders
set_option linter.unusedVariables false
set_option linter.unusedSimpArgs false
namespace Go.Cre
noncomputable section
open Go.RowKit
def ie(μ:bH)(c b1:List PanicEntry):Prop:=c.length=b1.length/\∀(i:Nat) e bn,c[i]?=some e->b1[i]?=some bn->bn.recovered=e.recovered/\bn.goexit=e.goexit/\bj μ e.v bn.v
def oi(μ:bH):FrameMode->FrameMode->Prop
 |.run,.run=>True
 |.returning,.returning=>True
 |.panicking c,.panicking b1=>ie μ c b1
 |_,_=>False
def Gm(μ:bH)(d kO:Deferred):Prop:=
 (∃fv cap dY,d.target=.fn fv cap/\kO.target=.fn fv dY/\vT fv=true/\bN μ cap.toList dY.toList/\bN μ d.args.toList kO.args.toList)\/(∃r L,d.target=.collected r/\μ r=some L/\kO.target=.collected L.r)
inductive rV (μ:bH):List Deferred->List Deferred->Prop
 |nil:rV μ [] []
 |cons (d kO:Deferred) (l l':List Deferred):Gm μ d kO->rV μ l l'->rV μ (d::l) (kO::l')
def CJ(μ:bH):Ending->Ending->Prop
 |.returned v,.returned v'=>bj μ v v'
 |.panicked c,.panicked b1=>ie μ c b1
 |_,_=>False
section
variable {P:Program}{B:Nat->Prop}{w0 w:World}{μ bk:bH}{H H':ao}
theorem ie.mono{c b1:List PanicEntry}(h:ie μ c b1)(e:Ext μ bk):ie bk c b1:=⟨h.1,fun i a b x y=>by obtain⟨p,q,r⟩:=h.2 i a b x y;exact⟨p,q,r.mono e⟩⟩
theorem oi.mono{m m':FrameMode}(h:oi μ m m')(e:Ext μ bk):oi bk m m':=by
 cases m<;>cases m'<;>first|trivial|exact h.elim|exact ie.mono h e
theorem Gm.mono{d kO:Deferred}(h:Gm μ d kO)(e:Ext μ bk):Gm bk d kO:=by
 rcases h with⟨fv,cap,dY,aa,ab,aK,bh,ff⟩|⟨r,L,aa,ab,aK⟩
 ·exact .inl ⟨fv,cap,dY,aa,ab,aK,bh.mono e,ff.mono e⟩
 ·exact .inr ⟨r,L,aa,e _ _ ab,aK⟩
theorem rV.mono{l l':List Deferred}(h:rV μ l l')(e:Ext μ bk):rV bk l l':=by
 induction h with
 |nil=>exact .nil
 |cons d kO l l' aS _ aG=>exact .cons d kO l l' (aS.mono e) aG
theorem ie.single{v v':Value}(h:bj μ v v'):ie μ [{v:=v,recovered:=false}] [{v:=v',recovered:=false}]:=
 ⟨rfl,fun i e bn x y=>by
  cases i with
  |zero=>simp at x y;subst x;subst y;exact⟨rfl,rfl,h⟩
  |succ i=>simp at x⟩
structure hM (μ:bH) (S:aQ) (fr:Frame) (tmps:Array Value) (ds:List Deferred) (cs:List Frame):Prop where
 t:jK μ S.T S.n tmps
 d:rV μ S.ds ds
 kind:fr.kind=if S.b0 then .deferred else .normal
 uv:S.cB=none->fr.roundOf=none
 z3:∀l,S.cB=some l->∃L,μ l=some L/\fr.roundOf=some L.r
 b8:S.b0=true->∃c rest,cs=c::rest/\oi μ S.b8 c.mode
theorem hM.mono{S:aQ}{fr:Frame}{tmps:Array Value}{ds:List Deferred}{cs:List Frame}(h:hM μ S fr tmps ds cs)(e:Ext μ bk):hM bk S fr tmps ds cs:=
 ⟨h.t.mono e,h.d.mono e,h.kind,h.uv,fun l q=>by obtain⟨L,a,b⟩:=h.z3 l q;exact⟨L,e _ _ a,b⟩,fun q=>by obtain⟨c,r,a,b⟩:=h.b8 q;exact⟨c,r,a,b.mono e⟩⟩
def jH(d:Bool)(cs cK:List Frame):Prop:=if d then ∃c rest m,cs=c::rest/\cK={c with mode:=m}::rest else cK=cs
theorem jH.refl(d:Bool)(cs:List Frame)(h:d=true->∃c rest,cs=c::rest):jH d cs cs:=by
 cases d with
 |false=>rfl
 |true=>obtain⟨c,rest,rfl⟩:=h rfl;exact⟨c,rest,c.mode,rfl,rfl⟩
theorem jH.trans{d:Bool}{a b c:List Frame}(h:jH d a b)(k:jH d b c):jH d a c:=by
 cases d with
 |false=>exact Eq.trans k h
 |true=>
  obtain⟨x,rest,m,rfl,rfl⟩:=h;obtain⟨y,v8,m',e,rfl⟩:=k;injection e with aD a5;subst aD;subst a5
  exact⟨x,rest,m',rfl,rfl⟩
def o1(P:Program)(B:Nat->Prop)(w0:World)(call:eS):Prop:=
 ∀f args H e H',call f args H=some (e,H')->∀μ w cD,bR P B w0 μ H w->bN μ args cD->
  (∃v v' bb bk,e=.returned v/\(callFunc f cD.toArray).run P w=.ok (.value v') bb/\bR P B w0 bk H' bb/\Step μ bk H H'/\bj bk v v')\/
  ((callFunc f cD.toArray).run P w=.ok (.enter f cD.toArray) w/\Calls P f cD.toArray w (fun bn bb=>∃bk,bR P B w0 bk H' bb/\Step μ bk H H'/\CJ bk e bn))
def wE(P:Program)(B:Nat->Prop)(w0:World)(aL:gU):Prop:=
 ∀l args H e H',aL l args H=some (e,H')->∀μ w L cD,bR P B w0 μ H w->μ l=some L->bN μ args cD->
  ∃v f oU a b,e=.returned v/\(Instr.yield L.r cD.toArray).run P w=.ok (.round L.r f oU a b) w/\
   ∀caller cs,∃v' bb bk,bR P B w0 bk H' bb/\Step μ bk H H'/\bj bk v v'/\Steps P (lone (Frame.round L.r f oU a b .normal) (caller::cs) w) (lone (caller.finish v') cs bb)
theorem Sb{ops:Array Oper}{T:aX Value}{n:Nat}{tmps:Array Value}{o:Oper}{b:Bool}(aN:jK μ T n tmps)(he:fW ops.toList T o=some b):Region.wanted o (yielded ops tmps)=b:=by
 unfold fW at he;unfold Region.wanted;cases ar:o.guard with
 |none=>rw[ar] at he;simp at he;exact he.symm▸rfl
 |some p=>
  obtain⟨j,want⟩:=p;rw[ar] at he;have he:tJ ops.toList T (j,want)=some b:=he;simp only[tJ,kk] at he;simp only[yielded];have aU:ops.toList[j]?=ops[j]?:=by simp
  rw[aU] at he;cases au:ops[j]? with
  |none=>rw[au] at he;simp at he;subst he;simp
  |some p=>
   rw[au] at he;simp only at he;cases aS:p.dst with
   |none=>rw[aS] at he;simp at he;subst he;simp[aS]
   |some d=>
    rw[aS] at he;simp only at he;cases dK:T.get d with
    |none=>rw[dK] at he;simp at he
    |some v=>
     rw[dK] at he;have ap:=aN.2 d v dK;have fg:tmps[d]?=some (tmps.getD d undef)\/(tmps[d]?=none/\tmps.getD d undef=undef):=by
      rcases jo d tmps.size with q|q
      ·left;simp[q]
      ·right;simp[q]
     simp only[Option.bind_some,aS];have af0:(∀c,v≠.bool c)->v≠.chan none->∀c,tmps.getD d undef≠.bool c:=fun aM hw c q=>by
      rw[q] at ap;cases ap with
      |atom _ _=>exact aM c rfl
      |wk _ _=>exact hw rfl
     by_cases xx:∃c,v=.bool c
     ·obtain⟨c,rfl⟩:=xx;simp only[b6] at he;subst he;have Mq:=ap.Di;rcases fg with q|⟨_,q⟩
      ·rw[q,Mq];simp
      ·rw[q] at Mq;cases Mq
     ·have gj:∀c,v≠.bool c:=fun c q=>xx ⟨c,q⟩;have Br:v≠.chan none:=fun q=>by rw[q] at he;cases he
      have ai:b=false:=by
       cases v<;>first|(simp only[b6] at he;exact he.symm)|exact absurd ⟨_,rfl⟩ xx|cases he
      subst ai;rcases fg with q|⟨q,_⟩
      ·rw[q];have:=af0 gj Br;cases I:tmps.getD d undef<;>first|rfl|exact absurd I (this _)
      ·rw[q];rfl
theorem N9{S aO:aQ}{fr:Frame}{tmps:Array Value}{ds:List Deferred}{cs:List Frame}{dst:Option Tmp}{v v':Value}(h:hM μ S fr tmps ds cs)(ap:bj μ v v')(he:S.put dst v=some aO):
 hM μ aO fr (sT tmps dst v') ds cs/\aO.b0=S.b0/\aO.cB=S.cB/\aO.b8=S.b8/\aO.ds=S.ds:=by
 cases dst with
 |none=>
  have he:some S=some aO:=he;injection he with he;subst he
  exact⟨h,rfl,rfl,rfl,rfl⟩
 |some d=>
  obtain⟨T,n,fH,b0,b8,cB⟩:=S;have he:Bool.rec (motive:=fun _=>Option aQ) none (aQ.rM n fH b0 b8 cB (aX.put v T d)) (Nat.ble (Nat.succ d) n)=some aO:=he;cases ai:Nat.ble (Nat.succ d) n with
  |false=>rw[ai] at he;cases he
  |true=>
   rw[ai] at he;have ai:=hC ai;have he:aQ.rM n fH b0 b8 cB (aX.put v T d)=some aO:=he;cases au:aX.put v T d with
   |none=>rw[au] at he;cases he
   |some dP=>
    rw[au] at he;have he:some (aQ.mk dP n fH b0 b8 cB)=some aO:=he;injection he with he;subst he
    refine⟨⟨⟨by have:=h.t.1;simpa[sT] using this,fun t u q=>?_⟩,h.d,h.kind,h.uv,h.z3,h.b8⟩,rfl,rfl,rfl,rfl⟩;have q:dP.get t=some u:=q;rw[aX.get_put au] at q;have eI:n<=tmps.size:=h.t.1;show bj μ u ((tmps.setIfInBounds d v').getD t undef);by_cases M4:t=d
    ·subst M4;rw[aF rfl] at q;injection q with q;subst q
     have:(tmps.setIfInBounds t v').getD t undef=v':=by
      have:t<tmps.size:=by omega
      simp[this]
     rw[this];exact ap
    ·rw[aq M4] at q;have:(tmps.setIfInBounds d v').getD t undef=tmps.getD t undef:=by
      simp[Pq (Ne.symm M4)]
     rw[this];exact h.t.2 t u q
def kL(P:Program)(B:Nat->Prop)(w0:World)(μ:bH)(H:ao)(S:aQ)(fr:Frame)(cs:List Frame)(m:Machine)(todo:List Item):dz->Prop
 |.ok aO H'=>∃bk bb gR fm cK,bR P B w0 bk H' bb/\Step μ bk H H'/\hM bk aO fr gR fm cK/\jH S.b0 cs cK/\aO.b0=S.b0/\aO.cB=S.cB/\Steps P m (lone (bG fr gR fm todo) cK bb)
 |.jh chain aO H'=>∃bk bb gR fm cK Dw gX,bR P B w0 bk H' bb/\Step μ bk H H'/\hM bk aO fr gR fm cK/\jH S.b0 cs cK/\aO.b0=S.b0/\aO.cB=S.cB/\ie bk chain Dw/\
  Steps P m (lone {bG fr gR fm gX with mode:=.panicking Dw} cK bb)
end
end
end Go.Cre
namespace Go.Cre
noncomputable section
open Go.RowKit
section
variable {P:Program}{B:Nat->Prop}{w0 w:World}{μ:bH}{H H':ao}{S:aQ}{fr:Frame}{tmps:Array Value}{ds:List Deferred}{cs:List Frame}{call:eS}{aL:gU}
variable {ops:Array Oper}{i:Nat}{rest:List Nat}{k:List Item}{o:Oper}
theorem hM.tQ(aw:hM μ S fr tmps ds cs):S.b0=true->∃c rest,cs=c::rest:=fun q=>by obtain⟨c,r,a,_⟩:=aw.b8 q;exact⟨c,r,a⟩
theorem ZX{r:cF}(he:cY P call aL S H o=some r){c:Call}(an:o.op=.defer c):S.cB=none:=by
 unfold cY fU at he;simp only at he;rw[an] at he;have he:xO P ⟨call,aL,S,H,o⟩ c=some r:=he;unfold xO at he;cases ax:S.cB with
 |none=>rfl
 |some l=>simp only[ax] at he;cases he
theorem z2{v v':Value}{bk:bH}{H':ao}{bb:World}{m:Machine}{cw:dz}(aw:hM bk S fr tmps ds cs)(jf:bR P B w0 bk H' bb)(al:Step μ bk H H')(ap:bj bk v v')
 (c0:Steps P m (lone (bG fr (sT tmps o.dst v') ds (.inRegion ops rest::k)) cs bb))(he:l5 S o.dst v H'=some cw):kL P B w0 μ H S fr cs m (.inRegion ops rest::k) cw:=by
 unfold l5 n8 at he;cases au:S.put o.dst v with
 |none=>rw[au] at he;cases he
 |some aO=>
  rw[au] at he;have he:some (dz.ok aO H')=some cw:=he;injection he with he;subst he
  obtain⟨a,b,c,_,_⟩:=N9 aw ap au;exact⟨bk,bb,_,ds,cs,jf,al,a,jH.refl _ _ aw.tQ,b,c,c0⟩
theorem kL.congr{S ba:aQ}{m:Machine}{todo:List Item}{cw:dz}(aa:ba.b0=S.b0)(ab:ba.cB=S.cB)(h:kL P B w0 μ H ba fr cs m todo cw):kL P B w0 μ H S fr cs m todo cw:=by
 cases cw with
 |ok aO H'=>obtain⟨a,b,c,d,e,b4,bX,cg,fJ,fV,gW,gJ⟩:=h;exact⟨a,b,c,d,e,b4,bX,cg,aa▸fJ,fV.trans aa,gW.trans ab,gJ⟩
 |jh chain aO H'=>obtain⟨a,b,c,d,e,x,y,b4,bX,cg,fJ,fV,gW,gJ,pc⟩:=h;exact⟨a,b,c,d,e,x,y,b4,bX,cg,aa▸fJ,fV.trans aa,gW.trans ab,gJ,pc⟩
theorem ajA{ops:Array Oper}{i:Nat}{rest:List Nat}{o:Oper}{bb:World}{v:Value}{cK:List Frame}(an:ops[i]?=some o)(hw:Region.wanted o (yielded ops tmps)=true)(vE:fr.roundOf=none)
 (ax:(execOp (c' tmps) o).run P w=.ok .recover bb)(aN:(tryRecover (bG fr tmps ds (.inRegion ops (i::rest)::k)) cs).getD (.nilIface,cs)=(v,cK)):
 step P (lone (bG fr tmps ds (.inRegion ops (i::rest)::k)) cs w)=.next (lone (bG fr (sT tmps o.dst v) ds (.inRegion ops rest::k)) cK bb):=by
 rw[<-yZ an];refine step_lone_go ?_;rw[z5 an hw (.inl vE)];have To:(bG fr tmps ds (.inRegion ops (i::rest)::k)).roundOf=none:=vE;cases I:tryRecover (bG fr tmps ds (.inRegion ops (i::rest)::k)) cs with
 |none=>
  rw[I] at aN;simp at aN;obtain⟨rfl,rfl⟩:=aN;simp[stepG.apply,ax,To,I]
 |some p=>
  obtain⟨v1,gv⟩:=p;rw[I] at aN;simp at aN;obtain⟨rfl,rfl⟩:=aN;simp[stepG.apply,ax,To,I]
theorem aio{ops:Array Oper}{i:Nat}{rest:List Nat}{v:Value}{b8:FrameMode}(aw:hM μ S fr tmps ds cs)(he:us S=some (v,b8)):
 ∃v' cK,(tryRecover (bG fr tmps ds (.inRegion ops (i::rest)::k)) cs).getD (.nilIface,cs)=(v',cK)/\bj μ v v'/\hM μ (S.Cz b8) fr tmps ds cK/\jH S.b0 cs cK/\fr.roundOf=none:=by
 unfold us at he;cases vE:S.cB with
 |some l=>rw[vE] at he;cases he
 |none=>
  rw[vE] at he;have xp:=aw.uv vE;obtain⟨T,n,fH,b0,F4,cB⟩:=S;cases b0 with
  |false=>
   simp only[dN] at he;injection he with he;injection he with aD a5;subst aD;subst a5
   have aH:(bG fr tmps ds (.inRegion ops (i::rest)::k)).kind=.normal:=aw.kind;have:tryRecover (bG fr tmps ds (.inRegion ops (i::rest)::k)) cs=none:=by
    cases cs<;>simp[tryRecover,aH]
   rw[this];exact⟨_,_,rfl,bj.atom _ rfl,aw,rfl,xp⟩
  |true=>
   simp only[cc] at he;have aH:(bG fr tmps ds (.inRegion ops (i::rest)::k)).kind=.deferred:=aw.kind;obtain⟨c,z4,rfl,hm⟩:=aw.b8 rfl;rw[tryRecover_deferred aH];have gj:recoverD (c::z4)=none->v=.nilIface->b8=F4->∃v' cK,(recoverD (c::z4)).getD (.nilIface,c::z4)=(v',cK)/\bj μ v v'/\hM μ (aQ.Cz b8 ⟨T,n,fH,true,F4,cB⟩) fr tmps ds cK/\jH true (c::z4) cK/\fr.roundOf=none:=by
    intro aa ab aK;subst ab;subst aK;rw[aa];exact⟨_,_,rfl,bj.atom _ rfl,aw,⟨c,z4,c.mode,rfl,rfl⟩,xp⟩
   cases M7:F4 with
   |run=>
    subst M7;simp only at he;injection he with he;injection he with aD a5
    refine gj ?_ aD.symm a5.symm;cases lD:c.mode<;>rw[lD] at hm<;>first|exact hm.elim|simp[recoverD,lD]
   |returning=>
    subst M7;simp only at he;injection he with he;injection he with aD a5
    refine gj ?_ aD.symm a5.symm;cases lD:c.mode<;>rw[lD] at hm<;>first|exact hm.elim|simp[recoverD,lD]
   |panicking ca=>
    subst M7;cases lD:c.mode with
    |run=>rw[lD] at hm;exact hm.elim
    |returning=>rw[lD] at hm;exact hm.elim
    |panicking yH=>
     rw[lD] at hm;have hm:ie μ ca yH:=hm;cases ca with
     |nil=>
      have:yH=[]:=wx hm.1.symm;subst this;simp only at he;injection he with he;injection he with aD a5
      exact gj (by simp[recoverD,lD]) aD.symm a5.symm
     |cons x UP=>
      cases yH with
      |nil=>have:=hm.1;simp at this
      |cons dD agw=>
       obtain⟨bl,bF,bO⟩:=hm.2 0 x dD rfl rfl;obtain⟨Ag,alh,alg⟩:=x;obtain⟨Pa,O',Xe⟩:=dD;simp only at bl bF bO;subst bl;subst bF;cases O' with
       |true=>
        simp only at he;injection he with he;injection he with aD a5
        exact gj (by simp[recoverD,lD]) aD.symm a5.symm
       |false=>
        cases Xe with
        |true=>
         simp only at he;injection he with he;injection he with aD a5
         exact gj (by simp[recoverD,lD]) aD.symm a5.symm
        |false=>
         simp only at he;injection he with he;injection he with aD a5
         subst aD;subst a5;refine⟨Pa,{c with mode:=.panicking ({v:=Pa,recovered:=true}::agw)}::z4,by simp[recoverD,lD],bO,⟨aw.t,aw.d,aw.kind,aw.uv,aw.z3,fun _=>⟨_,_,rfl,?_⟩⟩,⟨c,z4,_,rfl,rfl⟩,xp⟩;refine⟨by have:=hm.1;simpa using this,fun j e bn q dt=>?_⟩;cases j with
         |zero=>simp at q dt;subst q;subst dt;exact⟨rfl,rfl,bO⟩
         |succ j=>exact hm.2 (j+1) e bn (by simpa using q) (by simpa using dt)
theorem B8(hP:o1 P B w0 call)(oD:wE P B w0 aL)(h:bR P B w0 μ H w)(aw:hM μ S fr tmps ds cs)(an:ops[i]?=some o){cw:dz}(he:one P call aL ops.toList S H o=some cw):
 kL P B w0 μ H S fr cs (lone (bG fr tmps ds (.inRegion ops (i::rest)::k)) cs w) (.inRegion ops rest::k) cw:=by
 unfold one at he;cases ar:fW ops.toList S.T o with
 |none=>rw[ar] at he;cases he
 |some b=>
  rw[ar] at he;have hw:=Sb aw.t ar;cases b with
  |false=>
   have he:l5 S o.dst undef H=some cw:=he;exact z2 aw h (Step.refl _ _) (bj.undef μ) (.one (ajG an hw)) he
  |true=>
   have he:qs S H o.dst (cY P call aL S H o)=some cw:=he;cases dU:cY P call aL S H o with
   |none=>rw[dU] at he;cases he
   |some r=>
    rw[dU] at he;have he:UR S H o.dst r=some cw:=he;have g':=aaR h aw.t dU;have dL:fr.roundOf=none\/∀c,o.op≠.defer c:=by
     by_cases aS:∃c,o.op=.defer c
     ·obtain⟨c,aS⟩:=aS;exact .inl (aw.uv (ZX dU aS))
     ·exact .inr fun c q=>aS ⟨c,q⟩
    cases r with
    |val v H1=>
     have he:l5 S o.dst v H1=some cw:=he;rcases g' with⟨v',bb,bk,cO,dI,fK,iT⟩|⟨f,args,cD,cO,dI,fK⟩|⟨l,L,args,cD,v7,cO,dI,fK⟩
     ·exact z2 (aw.mono fK.ext) dI fK iT (.one (OE an hw dL cO)) he
     ·rcases hP f args H _ _ fK μ w cD h dI with⟨hr,v',bb,bk,aD,a5,cC,e0,ch⟩|⟨aD,a5⟩
      ·injection aD with aD;subst aD
       exact z2 (aw.mono e0.ext) cC e0 ch (.one (OE an hw dL (cO.trans a5))) he
      ·obtain⟨bn,bb,RW,⟨bk,b4,bX,cg⟩,Bb,_,Bn⟩:=a5 (bG fr tmps ds (.inRegion ops (i::rest)::k)::cs);cases bn with
       |returned v'=>
        refine z2 (aw.mono bX.ext) b4 bX cg ?_ he;rw[<-yZ an];exact .head (Wk an hw dL (cO.trans aD)) (Steps.trans Bb (.one (step_leave_returned Bn)))
       |panicked c=>exact cg.elim
       |outgrown=>exact cg.elim
     ·obtain⟨hr,f,oU,a,b,aD,a5,cC⟩:=oD l args H _ _ fK μ w L cD h v7 dI;injection aD with aD;subst aD
      obtain⟨v',bb,bk,b4,bX,cg,fJ⟩:=cC (bG fr tmps ds (.inRegion ops (i::rest)::k)) cs;refine z2 (aw.mono bX.ext) b4 bX cg ?_ he;rw[<-yZ an];exact .head (ajC an hw dL (cO.trans a5)) fJ
    |skip H1=>
     have he:l5 S o.dst undef H1=some cw:=he;obtain⟨bb,cO,dI,fK⟩:=g';exact z2 aw dI fK (bj.undef μ) (.one (ajF an hw dL cO)) he
    |gh d=>
     have he:FB S H o.dst d=some cw:=he;unfold FB at he;cases MY:S.cB with
     |some l=>rw[MY] at he;cases he
     |none=>
     rw[MY] at he;have he:l5 (S.Gb d) o.dst undef H=some cw:=he;obtain⟨fv,cap,dY,args,cD,rfl,cO,dI,fK,iT⟩:=g';have vE:fr.roundOf=none:=aw.uv MY;obtain⟨T,n,fH,b0,b8,cB⟩:=S
     have Mj:hM μ (aQ.Gb {target:=.fn fv cap,args:=args.toArray} ⟨T,n,fH,b0,b8,cB⟩) fr tmps ({target:=.fn fv dY,args:=cD.toArray}::ds) cs:=
      ⟨aw.t,.cons _ _ _ _ (.inl ⟨fv,cap,dY,rfl,rfl,dI,fK,by simpa using iT⟩) aw.d,aw.kind,aw.uv,aw.z3,aw.b8⟩
     exact kL.congr (ba:=aQ.Gb {target:=.fn fv cap,args:=args.toArray} ⟨T,n,fH,b0,b8,cB⟩) rfl rfl (z2 Mj h (Step.refl _ _) (bj.undef μ) (.one (ajm an hw vE cO)) he)
    |jh chain H1=>
     have he:some (dz.jh chain S H1)=some cw:=he;injection he with he;subst he
     rcases g' with⟨v,v',rfl,rfl,cO,dI⟩|⟨f,args,cD,cO,dI,fK⟩
     ·exact⟨μ,w,tmps,ds,cs,_,_,h,Step.refl _ _,aw,jH.refl _ _ aw.tQ,rfl,rfl,ie.single dI,.one (ajw an hw dL cO)⟩
     ·rcases hP f args H _ _ fK μ w cD h dI with⟨hr,v',bb,bk,aD,_⟩|⟨aD,a5⟩
      ·cases aD
      ·obtain⟨bn,bb,RW,⟨bk,b4,bX,cg⟩,Bb,_,Bn⟩:=a5 (bG fr tmps ds (.inRegion ops (i::rest)::k)::cs);cases bn with
       |returned v'=>exact cg.elim
       |panicked c=>
        refine⟨bk,bb,tmps,ds,cs,c,.inRegion ops (i::rest)::k,b4,bX,aw.mono bX.ext,jH.refl _ _ aw.tQ,rfl,rfl,cg,?_⟩;exact .head (Wk an hw dL (cO.trans aD)) (Steps.trans Bb (.one (step_leave_panicked Bn)))
       |outgrown=>exact cg.elim
    |Cl=>
     have he:IY S H o.dst (us S)=some cw:=he;cases BA:us S with
     |none=>rw[BA] at he;cases he
     |some p=>
      obtain⟨v,b8⟩:=p;rw[BA] at he;have he:l5 (S.Cz b8) o.dst v H=some cw:=he;obtain⟨v',cK,t1,t2,t3,t4,t5⟩:=aio (k:=k) (ops:=ops) (i:=i) (rest:=rest) aw BA;unfold l5 n8 at he;cases au:(S.Cz b8).put o.dst v with
      |none=>rw[au] at he;cases he
      |some aO=>
       rw[au] at he;have he:some (dz.ok aO H)=some cw:=he;injection he with he;subst he
       obtain⟨a,b,c,_,_⟩:=N9 t3 t2 au;exact⟨μ,w,_,ds,cK,h,Step.refl _ _,a,t4,b,c,.one (ajA an hw t5 g' t1)⟩
end
end
end Go.Cre
namespace Go.Cre
noncomputable section
open Go.RowKit
section
variable {P:Program}{B:Nat->Prop}{w0 w:World}{μ:bH}{H H':ao}{S:aQ}{fr:Frame}{tmps:Array Value}{ds:List Deferred}{cs:List Frame}{call:eS}{aL:gU}
variable {ops:Array Oper}{k:List Item}
theorem kL.steps{m m':Machine}{todo:List Item}{cw:dz}(al:Steps P m m')(h:kL P B w0 μ H S fr cs m' todo cw):kL P B w0 μ H S fr cs m todo cw:=by
 cases cw with
 |ok aO H'=>obtain⟨a,b,c,d,e,b4,bX,cg,fJ,fV,gW,gJ⟩:=h;exact⟨a,b,c,d,e,b4,bX,cg,fJ,fV,gW,al.trans gJ⟩
 |jh chain aO H'=>obtain⟨a,b,c,d,e,x,y,b4,bX,cg,fJ,fV,gW,gJ,pc⟩:=h;exact⟨a,b,c,d,e,x,y,b4,bX,cg,fJ,fV,gW,gJ,al.trans pc⟩
theorem kL.bind{ba:aQ}{H1:ao}{m:Machine}{Wx Wy:List Item}{cw:dz}(h:kL P B w0 μ H S fr cs m Wx (.ok ba H1))
 (aH:∀e' d' x9 ty gv,bR P B w0 e' H1 d'->Step μ e' H H1->hM e' ba fr x9 ty gv->jH S.b0 cs gv->ba.b0=S.b0->ba.cB=S.cB->kL P B w0 e' H1 ba fr gv (lone (bG fr x9 ty Wx) gv d') Wy cw):kL P B w0 μ H S fr cs m Wy cw:=by
 obtain⟨e',d',x9,ty,gv,b4,bX,cg,fJ,fV,gW,gJ⟩:=h;have ez:=(aH e' d' x9 ty gv b4 bX cg fJ fV gW).steps gJ;cases cw with
 |ok aO H'=>obtain⟨a,b,c,d,e,aZ,aR,bY,ep,gl,kY,pA⟩:=ez;exact⟨a,b,c,d,e,aZ,bX.trans aR,bY,fJ.trans (fV▸ep),gl.trans fV,kY.trans gW,pA⟩
 |jh chain aO H'=>obtain⟨a,b,c,d,e,x,y,aZ,aR,bY,ep,gl,kY,pA,Jh⟩:=ez;exact⟨a,b,c,d,e,x,y,aZ,bX.trans aR,bY,fJ.trans (fV▸ep),gl.trans fV,kY.trans gW,pA,Jh⟩
theorem aaS(hP:o1 P B w0 call)(oD:wE P B w0 aL)(l:List Oper):∀(i:Nat) (μ:bH) (w:World) (S:aQ) (H:ao) (tmps:Array Value) (ds:List Deferred) (cs:List Frame) (cw:dz),
 ops.toList.drop i=l->bR P B w0 μ H w->hM μ S fr tmps ds cs->AX P call aL ops.toList l S H=some cw->
 kL P B w0 μ H S fr cs (lone (bG fr tmps ds (.inRegion ops (List.range' i l.length)::k)) cs w) k cw:=by
 induction l with
 |nil=>
  intro i μ w S H tmps ds cs cw _ h aw he;have he:some (dz.ok S H)=some cw:=he;injection he with he;subst he
  exact⟨μ,w,tmps,ds,cs,h,Step.refl _ _,aw,jH.refl _ _ aw.tQ,rfl,rfl,.one OC⟩
 |cons o l aG=>
  intro i μ w S H tmps ds cs cw aS h aw he;have he:RH (AX P call aL ops.toList l) (one P call aL ops.toList S H o)=some cw:=he;have an:ops[i]?=some o:=by
   have:(ops.toList.drop i)[0]?=some o:=by rw[aS];rfl
   simpa using this
  have vt:ops.toList.drop (i+1)=l:=by
   have:(ops.toList.drop i).drop 1=l:=by rw[aS];rfl
   rw[Aq] at this;exact this
  show kL P B w0 μ H S fr cs (lone (bG fr tmps ds (.inRegion ops (i::List.range' (i+1) l.length)::k)) cs w) k cw;cases nU:one P call aL ops.toList S H o with
  |none=>rw[nU] at he;cases he
  |some cO=>
   rw[nU] at he;have aa:=B8 (k:=k) (rest:=List.range' (i+1) l.length) hP oD h aw an nU;cases cO with
   |jh chain ba H1=>
    have he:some (dz.jh chain ba H1)=some cw:=he;injection he with he;subst he
    exact aa
   |ok ba H1=>
    have he:AX P call aL ops.toList l ba H1=some cw:=he;exact aa.bind fun e' d' x9 ty gv b4 _ cg _ _ _=>aG (i+1) e' d' ba H1 x9 ty gv cw vt b4 cg he
end
end
end Go.Cre
namespace Go.Cre
noncomputable section
open Go.RowKit
section
variable {P:Program}{H:ao}{S aO:aQ}{o:Oper}{call:eS}{aL:gU}
theorem FF{T dP:aX Value}:∀{l:List Operand},(∀x∈l,a6 dP H x=a6 T H x)->fQ dP H l=fQ T H l:=by
 intro l;induction l with
 |nil=>intro _;rfl
 |cons x l aG=>
  intro h;simp only[fQ];rw[h x (by simp),aG fun y ah=>h y (by simp[ah])]
theorem U0{T dP:aX Value}:∀{l:List (Nat×Operand)},(∀x∈l.map (·.2),a6 dP H x=a6 T H x)->kX dP H l=kX T H l:=by
 intro l;induction l with
 |nil=>intro _;rfl
 |cons x l aG=>
  intro h;obtain⟨i,x⟩:=x;simp only[kX];rw[h x (by simp),aG fun y ah=>h y (by simp at ah ⊢;exact .inr ah)]
theorem aaT{T dP:aX Value}(al:∀cs b,o.op≠.select cs b)(h:∀x∈o.op.operands,a6 dP H x=a6 T H x):gH P dP H o=gH P T H o:=by
 unfold gH;rw[FF fun x I=>h x (by simpa using I)];have:execOp (rH dP H) o=execOp (rH T H) o:=execOp_congr o al fun x I=>by unfold rH;rw[h x I]
 rw[this]
theorem UT{T dP:aX Value}{x:Option Operand}(h:∀y∈x.toArray,a6 dP H y=a6 T H y):h7 dP H x=h7 T H x:=by
 cases x with
 |none=>rfl
 |some x=>simp only[h7];rw[h x (by simp)]
theorem Hm(ax:aO.cB=S.cB)(h:∀x∈o.op.operands,a6 aO.T H x=a6 S.T H x):cY P call aL aO H o=cY P call aL S H o:=by
 have dq:(∀cs b,o.op≠.select cs b)->gH P aO.T H o=gH P S.T H o:=fun al=>aaT al h;unfold cY fU;obtain⟨dst,op,type,pos,after,guard⟩:=o;simp only at h dq;cases op<;>simp only[Op.operands] at h<;>simp only
 case move x=>show g2 (a6 aO.T H x) H=g2 (a6 S.T H x) H;rw[h x (by simp)]
 case assign x=>show g2 (a6 aO.T H x) H=g2 (a6 S.T H x) H;rw[h x (by simp)]
 case pick c a b=>
  show xS P _ a b (a6 aO.T H c)=xS P _ a b (a6 S.T H c);rw[h c (by simp)];have aD:a6 aO.T H a=a6 S.T H a:=h a (by simp);have a5:a6 aO.T H b=a6 S.T H b:=h b (by simp);unfold xS ej.a6;simp only[aD,a5]
 case alloc e=>rfl
 case box e x=>show FC P _ e (a6 aO.T H x)=FC P _ e (a6 S.T H x);rw[h x (by simp)];rfl
 case build t dx=>show zQ P _ t (kX aO.T H dx.toList)=zQ P _ t (kX S.T H dx.toList);rw[U0 fun x I=>h x (by simpa using I)];rfl
 case buildSlice t n dx=>show FD P _ t n (kX aO.T H dx.toList)=FD P _ t n (kX S.T H dx.toList);rw[U0 fun x I=>h x (by simpa using I)];rfl
 case load t a=>show zT P _ t (a6 aO.T H a)=zT P _ t (a6 S.T H a);rw[h a (by simp)];rfl
 case store t a v=>show B9 P _ t (a6 aO.T H a) (a6 aO.T H v)=B9 P _ t (a6 S.T H a) (a6 S.T H v);rw[h a (by simp),h v (by simp)];rfl
 case nilCheck x=>show zW P _ (a6 aO.T H x)=zW P _ (a6 S.T H x);rw[h x (by simp)];rfl
 case binOp op t x y u=>
  have au:=dq (fun _ _=>by simp);show nr P _ op t (a6 aO.T H x) (a6 aO.T H y)=nr P _ op t (a6 S.T H x) (a6 S.T H y);rw[h x (by simp),h y (by simp)];have BD:∀a b,sP P ⟨call,aL,aO,H,⟨dst,.binOp op t x y u,type,pos,after,guard⟩⟩ op t a b=sP P ⟨call,aL,S,H,⟨dst,.binOp op t x y u,type,pos,after,guard⟩⟩ op t a b:=fun a b=>by
   unfold sP ej.oP;simp only[au];unfold vZ;rfl
  unfold nr NR ej.oP;simp only[au,BD]
 case unOp op t x=>
  have au:=dq (fun _ _=>by simp);exact au
 case convert s d x=>
  have au:=dq (fun _ _=>by simp);show v0 P _ s d (a6 aO.T H x)=v0 P _ s d (a6 S.T H x);rw[h x (by simp)];unfold v0 ej.oP;simp only[au]
 case makeInterface t x=>show zV P _ t (a6 aO.T H x) _=zV P _ t (a6 S.T H x) _;rw[h x (by simp)];rfl
 case makeFunc fn first captured=>
  show zU P _ fn (fQ aO.T H first.toList) (fQ aO.T H captured.toList)=zU P _ fn (fQ S.T H first.toList) (fQ S.T H captured.toList);rw[FF fun x I=>h x (by simp at I;simp[I]),FF fun x I=>h x (by simp at I;simp[I])];rfl
 case makeSlice t l c=>show FE P _ t (a6 aO.T H l) (a6 aO.T H c)=FE P _ t (a6 S.T H l) (a6 S.T H c);rw[h l (by simp),h c (by simp)];rfl
 case slice t x cL ak px=>
  have au:=dq (fun _ _=>by simp);cases px with
  |some m=>rfl
  |none=>
   show n5 P _ t (a6 aO.T H x) (h7 aO.T H cL) (h7 aO.T H ak)=n5 P _ t (a6 S.T H x) (h7 S.T H cL) (h7 S.T H ak);rw[h x (by simp),UT (x:=cL) fun y ah=>h y (by simp at ah;simp[ah]),UT (x:=ak) fun y ah=>h y (by simp at ah;simp[ah])];unfold n5 ej.oP;simp only[au]
 case fieldAddr t x f=>show zS P _ t f (a6 aO.T H x)=zS P _ t f (a6 S.T H x);rw[h x (by simp)];rfl
 case field t x f=>show xP P _ f (a6 aO.T H x) _=xP P _ f (a6 S.T H x) _;rw[h x (by simp)];rfl
 case indexAddr t x i=>show xR P _ t (a6 aO.T H x) (a6 aO.T H i)=xR P _ t (a6 S.T H x) (a6 S.T H i);rw[h x (by simp),h i (by simp)];rfl
 case index t x i=>show xQ P _ (a6 aO.T H x) (a6 aO.T H i) _=xQ P _ (a6 S.T H x) (a6 S.T H i) _;rw[h x (by simp),h i (by simp)];rfl
 case typeAssert x t a ok=>show B' P _ a ok (a6 aO.T H x)=B' P _ a ok (a6 S.T H x);rw[h x (by simp)];rfl
 case extract x bf=>show zR P _ bf (a6 aO.T H x)=zR P _ bf (a6 S.T H x);rw[h x (by simp)];rfl
 case call c=>
  have au:=dq (fun _ _=>by simp);have q8:fQ aO.T H c.args.toList=fQ S.T H c.args.toList:=FF fun x I=>h x (by simp[Call.operands,CG.1 I]);show lg P _ c=lg P _ c;unfold lg;cases av:c.callee with
  |builtin b=>
   simp only
   unfold q4;simp only[q8,au]
  |value f=>
   have aw:a6 aO.T H f=a6 S.T H f:=h f (by simp[Call.operands,av]);simp only
   unfold nh;simp only[q8,av,aw]
  |invoke r m=>
   have aw:a6 aO.T H r=a6 S.T H r:=h r (by simp[Call.operands,av]);simp only
   unfold nh;simp only[q8,av,aw]
 case defer c=>
  have q8:fQ aO.T H c.args.toList=fQ S.T H c.args.toList:=FF fun x I=>h x (by simp[Call.operands,CG.1 I]);show xO P _ c=xO P _ c;unfold xO Hj;simp only[ax,q8];cases av:c.callee with
  |builtin b=>rfl
  |value f=>
   have aw:a6 aO.T H f=a6 S.T H f:=h f (by simp[Call.operands,av]);simp only[aw]
  |invoke r m=>
   have aw:a6 aO.T H r=a6 S.T H r:=h r (by simp[Call.operands,av]);simp only[aw]
 case panic x=>show IZ P _ (a6 aO.T H x)=IZ P _ (a6 S.T H x);rw[h x (by simp)];rfl
end
end
end Go.Cre
namespace Go.Cre
noncomputable section
open Go.RowKit
section
variable {P:Program}{H H':ao}{S aO:aQ}{o:Oper}{call:eS}{aL:gU}{v:Value}
theorem oW{x:Option Value}(he:g2 x H=some (.val v H')):H'=H:=by
 cases x with
 |none=>cases he
 |some x=>have he:some (cF.val x H)=some (.val v H'):=he;injection he with he;injection he with _ he;exact he.symm
theorem aaU{T:aX Value}(he:gH P T H o=some (.val v H')):H'=H:=by
 unfold gH at he;cases aa:fQ T H o.op.operands.toList with
 |none=>rw[aa] at he;cases he
 |some vs=>
  rw[aa] at he;cases ab:vs.all plain with
  |false=>simp only[ab] at he;cases he
  |true=>
   simp only[ab,cc] at he;cases aK:fI P (execOp (rH T H) o) with
   |none=>rw[aK] at he;cases he
   |some r=>
    rw[aK] at he;cases r with
    |value u=>
     simp only at he;cases bh:plain u with
     |false=>rw[bh] at he;cases he
     |true=>rw[bh] at he;injection he with he;injection he with _ he;exact he.symm
    |skip=>injection he with he;cases he
    |_=>cases he
theorem UV{a b:Option cF}(aW:a=some (.val v H')->H'=H)(ai:b=some (.val v H')->H'=H)(he:orElse a b=some (.val v H')):H'=H:=by
 cases a with
 |none=>exact ai he
 |some a=>exact aW he
theorem Jj{n:Int}{k:IntKind}(he:pY n (oQ H k)=some (.val v H')):H'=H:=by
 rcases n with(_|m)|(_|m)<;>(injection he with he;injection he with _ he;exact he.symm)
theorem aiy{b:Bool}(he:v9 H b=some (.val v H')):H'=H:=by
 cases b<;>(injection he with he;injection he with _ he;exact he.symm)
theorem Yv{b:Bool}{u:Value}(h:(bif b then none else some (cF.val u H))=some (.val v H')):H'=H:=by
 cases b<;>simp at h;exact h.2.symm
theorem RG(av:BO o.op=false)(aW:xC o.op=false)(he:cY P call aL S H o=some (.val v H'))(gk:H'.af=H.af):H'=H:=by
 unfold cY fU at he;obtain⟨dst,op,type,pos,after,guard⟩:=o;have dq:∀o',gH P S.T H o'=some (.val v H')->H'=H:=fun o' q=>aaU q;cases op<;>simp only[BO,xC] at av aW<;>simp only at he
 case move x=>exact oW (x:=a6 S.T H x) he
 case assign x=>exact oW (x:=a6 S.T H x) he
 case pick c a b=>
  have he:xS P _ a b (a6 S.T H c)=_:=he;unfold xS at he;split at he
  ·exact oW he
  ·exact oW he
  ·cases he
 case alloc=>cases aW
 case box=>cases aW
 case build t dx=>
  have he:zQ P _ t (kX S.T H dx.toList)=_:=he;unfold zQ at he;split at he
  ·exact oW he
  ·cases he
 case buildSlice=>cases aW
 case load t a=>
  have he:zT P _ t (a6 S.T H a)=_:=he;unfold zT at he;split at he
  ·exact oW he
  ·cases he
 case nilCheck x=>
  have he:zW P _ (a6 S.T H x)=_:=he;unfold zW at he;split at he<;>first|(injection he with he;injection he with _ he;exact he.symm)|cases he
 case binOp op t x y u=>
  have he:nr P _ op t (a6 S.T H x) (a6 S.T H y)=_:=he;have BD:∀X:ej,X.H=H->X.S=S->∀a b,sP P X op t a b=some (.val v H')->H'=H:=fun X jS aC a b q=>by
   unfold sP at q;refine UV (fun q=>?_) (fun q=>?_) q
   ·unfold ej.oP at q;rw[jS,aC] at q;exact dq _ q
   ·unfold vZ at q;split at q
    ·split at q
     ·injection q with q;injection q with _ q;rw[<-q,jS]
     ·cases q
    ·split at q
     ·injection q with q;injection q with _ q;rw[<-q,jS]
     ·cases q
    ·cases q
  unfold nr at he;split at he
  ·unfold NR at he;rename_i k a l b _ _;cases aH:sG k l with
   |false=>rw[aH,dN] at he;exact BD _ (by rfl) (by rfl) _ _ he
   |true=>
    rw[aH,cc] at he;unfold mu at he;split at he<;>first|exact Jj he|exact aiy he|exact dq _ he
  ·exact BD _ (by rfl) (by rfl) _ _ he
  ·cases he
 case unOp op t x=>exact dq _ he
 case convert s d x=>
  have he:v0 P _ s d (a6 S.T H x)=_:=he;unfold v0 at he;split at he
  ·cases he
  ·rename_i xX _;cases ap:vh P H s d xX with
   |none=>rw[ap] at he;exact dq _ he
   |some p=>
    obtain⟨u,H1⟩:=p;rw[ap] at he;have he:some (cF.val u H1)=some (.val v H'):=he;injection he with he;injection he with _ he;subst he
    have:=aa0 ap;omega
  ·exact oW he
  ·exact oW he
  ·split at he
   ·exact Jj he
   ·exact dq _ he
  ·exact dq _ he
 case makeInterface t x=>
  have he:zV P _ t (a6 S.T H x) (P.underlying t)=_:=he;unfold zV at he;split at he<;>first|(injection he with he;injection he with _ he;exact he.symm)|cases he
 case makeFunc fn first captured=>
  have he:zU P _ fn (fQ S.T H first.toList) (fQ S.T H captured.toList)=_:=he;unfold zU at he;split at he
  ·split at he
   ·cases he
   ·injection he with he;injection he with _ he;exact he.symm
  ·cases he
 case makeMap=>cases aW
 case makeSlice=>cases aW
 case slice t x cL ak px=>
  cases px with
  |some m=>cases he
  |none=>
   have he:n5 P _ t (a6 S.T H x) (h7 S.T H cL) (h7 S.T H ak)=_:=he;unfold n5 at he;split at he
   ·exact UV (fun q=>oW q) (fun q=>dq _ q) he
   ·cases he
 case fieldAddr t x f=>
  have he:zS P _ t f (a6 S.T H x)=_:=he;unfold zS at he;split at he
  ·exact oW he
  ·cases he
 case field t x f=>
  have he:xP P _ f (a6 S.T H x) (P.underlying t)=_:=he;unfold xP at he;split at he
  ·split at he
   ·exact oW he
   ·cases he
  ·cases he
 case indexAddr t x i=>
  have he:xR P _ t (a6 S.T H x) (a6 S.T H i)=_:=he;unfold xR at he;split at he
  ·exact oW he
  ·cases he
 case index t x i=>
  have he:xQ P _ (a6 S.T H x) (a6 S.T H i) (P.underlying t)=_:=he;unfold xQ at he;split at he
  ·split at he
   ·exact oW he
   ·cases he
  ·split at he
   ·split at he
    ·exact Jj he
    ·cases he
   ·cases he
  ·cases he
 case typeAssert x t a ok=>
  have he:B' P _ a ok (a6 S.T H x)=_:=he;unfold B' at he;split at he
  ·exact oW he
  ·cases he
 case extract x bf=>
  have he:zR P _ bf (a6 S.T H x)=_:=he;unfold zR at he;split at he
  ·exact oW he
  ·cases he
 case call c=>
  have he:lg P _ c=_:=he;obtain⟨callee,args,argTypes⟩:=c;unfold lg at he;cases callee with
  |value f=>cases av
  |invoke r m=>cases av
  |builtin b=>
   simp only at he av;unfold q4 at he;split at he
   ·cases he
   ·cases b<;>simp only at av<;>first|cases av|skip
    all_goals simp only at he
    all_goals first
     |exact dq _ he
     |skip
    all_goals (
     split at he
     all_goals first
      |contradiction
      |exact dq _ he
      |(cases he;done)
      |(cases he;rfl)
      |skip
     all_goals (
      split at he
      all_goals first
       |contradiction
       |exact dq _ he
       |(cases he;done)
       |(cases he;rfl)
       |exact Yv he
       |(split at he<;>first|(cases he;done)|exact Jj he)
       |(split at he<;>first|(cases he;done)|(cases he;rfl))))
 all_goals first|(cases av;done)|(cases he;done)
end
end
end Go.Cre

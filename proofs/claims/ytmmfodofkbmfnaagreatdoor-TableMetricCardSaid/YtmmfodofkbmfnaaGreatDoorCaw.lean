/- A part of the proof of TableMetric. -/
import Derived.Test.YtmmfodofkbmfnaaGreatDoorCav
set_option linter.unusedVariables false
set_option linter.unusedSimpArgs false
namespace Go.Opn
noncomputable section
open Go.Cre Go.RowKit
section
variable {K:di}{B:c6}{o:Oper}{n:Nat}{ds:dL}{l:List (Nat×Value)}{m m':aU}{J:an}{dS:bK->aU->an->Prop}{d:Nat}{cC:Exit->bK->aU->an->Prop}
theorem wrap_u8{n:Int}(U:0<=n)(ab:n<=255):IntKind.u8.wrap n=n:=by
 unfold IntKind.wrap IntKind.signed IntKind.bits;simp only[Ai,Aj,zd];omega
def Du (a b:Int):BinOp->Option Int
 |.add=>some (a+b)
 |.sub=>some (a -b)
 |.mul=>some (a*b)
 |_=>none
theorem Zu{op:BinOp}{t dq:TypeId}{x y:Operand}{k:IntKind}{a b c bo:Int}(ae:o.op=.binOp op t x y dq)(j:bB l x=some (.int k a))(aC:bB l y=some (.int k b))(aD:Du a b op=some c)(hw:k.wrap c=bo):ch K B o n ds l m J (.int k bo):=by
 refine NH ae j aC ?_;cases op<;>simp only[Du,bL,reduceCtorEq] at aD<;>subst aD<;>subst hw<;>rfl
theorem NL{op:BinOp}{t dq:TypeId}{x y:Operand}{a b:List UInt8}{v:Value}(ae:o.op=.binOp op t x y dq)(j:bB l x=some (.string ⟨⟨a⟩⟩))(aC:bB l y=some (.string ⟨⟨b⟩⟩))(dd:op=.eql/\v=.bool (decide (a=b))\/op=.neq/\v=.bool (decide (¬a=b))):ch K B o n ds l m J v:=by
 intro call az S H al au;unfold cc eh;simp only[ae];show ja K.P _ op t (aR S.T H x) (aR S.T H y)=_;rw[cX al H j,cX al H aC];show orElse (ek K.P S.T H o) _=_;have:ek K.P S.T H o=some (.val v H):=by
  rcases dd with⟨rfl,rfl⟩|⟨rfl,rfl⟩
  ·refine lk al (by rw[ae];rfl) j aC rfl rfl ?_ rfl;unfold execOp;simp only[ae];rw[gx al H j,gx al H aC];have af:binOp .eql t (.string ⟨⟨a⟩⟩) (.string ⟨⟨b⟩⟩)=Op.stringOp .eql ⟨⟨a⟩⟩ ⟨⟨b⟩⟩:=by simp[binOp]
   have ar:en K.P (eqGuard .eql t x y (.string ⟨⟨a⟩⟩) (.string ⟨⟨b⟩⟩))=some ():=rfl;rw[eW (a:=.bool (decide (a=b)))]
   ·rfl
   rw[eW ar,af];show some (Value.bool ((⟨⟨a⟩⟩:ByteArray).toList==(⟨⟨b⟩⟩:ByteArray).toList))=_;rw[IM]
  ·refine lk al (by rw[ae];rfl) j aC rfl rfl ?_ rfl;unfold execOp;simp only[ae];rw[gx al H j,gx al H aC];have af:binOp .neq t (.string ⟨⟨a⟩⟩) (.string ⟨⟨b⟩⟩)=Op.stringOp .neq ⟨⟨a⟩⟩ ⟨⟨b⟩⟩:=by simp[binOp]
   have ar:en K.P (eqGuard .neq t x y (.string ⟨⟨a⟩⟩) (.string ⟨⟨b⟩⟩))=some ():=rfl;rw[eW (a:=.bool (decide (¬a=b)))]
   ·rfl
   rw[eW ar,af];show some (Value.bool (!((⟨⟨a⟩⟩:ByteArray).toList==(⟨⟨b⟩⟩:ByteArray).toList)))=_;rw[IM,show(!decide (a=b))=decide (¬a=b) by simp]
 rw[this];rfl
def isIface (P:Program)(t:TypeId):Bool:=match P.underlying t with|some (.interface _)=>true|_=>false
def BV:Value->Option Bool
 |.nilIface=>some true
 |.iface _ _=>some false
 |_=>none
theorem ZD{t dq:TypeId}{x:Operand}{v:Value}{b:Bool}(ae:o.op=.binOp .eql t x (.const .nilIface) dq)(j:bB l x=some v)(aD:BV v=some b)(aG:isIface K.P t=true):ch K B o n ds l m J (.bool b):=by
 intro call az S H al au;have aC:bB l (.const .nilIface)=some .nilIface:=rfl;unfold isIface at aG;split at aG
 ·rename_i B' hu;cases v with
  |nilIface=>
   simp only[BV,bL] at aD;subst aD;unfold cc eh;simp only[ae];show ja K.P _ .eql t (aR S.T H x) (aR S.T H (.const .nilIface))=_;rw[cX al H j,cX al H aC];show orElse (ek K.P S.T H o) _=_;have:ek K.P S.T H o=some (.val (.bool true) H):=by
    refine lk al (by rw[ae];rfl) j aC rfl rfl ?_ rfl;unfold execOp;simp only[ae];rw[gx al H j,gx al H aC];rw[eW (a:=.bool true)]
    ·rfl
    rw[eW (a:=())]
    ·have af:binOp .eql t .nilIface .nilIface=(do pure (.bool (<-Op.equal t .nilIface .nilIface))):=by simp[binOp]
     rw[af,eW (a:=true)]
     ·rfl
     show en K.P (Op.equalIn (9999+1) t .nilIface .nilIface)=_;unfold Op.equalIn;rw[eW (A9 hu)];rfl
    ·unfold eqGuard;simp
     rfl
   rw[this];rfl
  |iface ix v'=>
   simp only[BV,bL] at aD;subst aD;cases ao:ek K.P S.T H o with
   |none=>
    refine IN ae (cX al H j) (cX al H aC) (fun _ _ q=>by cases q) ao ?_;unfold pR qy;simp only[hu]
   |some r=>
    unfold cc eh;simp only[ae];show ja K.P _ .eql t (aR S.T H x) (aR S.T H (.const .nilIface))=_;rw[cX al H j,cX al H aC];show orElse (ek K.P S.T H o) _=_;have:ek K.P S.T H o=some (.val (.bool false) H):=by
     have dO:plain (.iface ix v')=true:=by
      cases q:plain (.iface ix v') with
      |true=>rfl
      |false=>
       exfalso;unfold ek at ao;rw[ae] at ao;have:ev S.T H (Op.binOp BinOp.eql t x (.const .nilIface) dq).operands.toList=some [.iface ix v',.nilIface]:=by
        show ev S.T H [x,.const .nilIface]=_;simp only[ev];rw[cX al H j,cX al H aC]
       rw[this] at ao;simp only[xr,q,Ai,cZ] at ao;cases ao
     refine lk al (by rw[ae];rfl) j aC dO rfl ?_ rfl;unfold execOp;simp only[ae];rw[gx al H j,gx al H aC];rw[eW (a:=.bool false)]
     ·rfl
     rw[eW (a:=())]
     ·have af:binOp .eql t (.iface ix v') .nilIface=(do pure (.bool (<-Op.equal t (.iface ix v') .nilIface))):=by simp[binOp]
      rw[af,eW (a:=false)]
      ·rfl
      show en K.P (Op.equalIn (9999+1) t (.iface ix v') .nilIface)=_;unfold Op.equalIn;rw[eW (A9 hu)];rfl
     ·unfold eqGuard;simp
      rfl
    rw[this];rfl
  |_=>simp[BV] at aD
 ·cases aG
theorem SD{S:aO}{ops:List Oper}{d:Nat}{want:Bool}(ar:jF ops o=some (d,want))(af:S.T.get d=some undef):eI ops S.T o=some false:=by
 unfold jF at ar;unfold eI;cases q:o.guard with
 |none=>rw[q] at ar;cases ar
 |some x=>
  obtain⟨aa,w⟩:=x;rw[q] at ar;show po ops S.T (aa,w)=_;unfold po;simp only at ar ⊢;cases aE:nth ops aa with
  |none=>rfl
  |some p=>
   rw[aE] at ar;simp only at ar ⊢;cases ax:p.dst with
   |none=>rfl
   |some ht=>
    rw[ax] at ar;simp only[bL,cU] at ar;obtain⟨rfl,rfl⟩:=ar;simp only[af];rfl
theorem ad.nd{c:Code}(k:Nat)(news:List (Nat×Value))(U:ad K B c ⟨n,ds,l⟩ m J fun e cy m' ai=>match e with
 |.normal=>(∃l',cy=⟨n,ds,l'⟩/\lp l' (news++l.drop k))/\m.Sublist m'/\ai=J
 |e=>cC e cy m' ai)(ab:cC .normal ⟨n,ds,news++l.drop k⟩ m J):ad K B c ⟨n,ds,l⟩ m J cC:=ad.cut U ab
theorem ad.VM{α:Type}{c:Code}{base:List (Nat×Value)}(nE:α->List (Nat×Value))(mem:α->aU)(dv:α->an)(inv:α->Prop)(nC:α->Nat)(s:α)(ag:inv s)
 (b2:∀s,inv s->ad K B c ⟨n,ds,nE s++base⟩ (mem s) (dv s) fun e E m J=>match e with
  |.normal=>∃c1 l,inv c1/\nC c1<nC s/\E=⟨n,ds,l⟩/\lp l (nE c1++base)/\(mem c1).Sublist m/\J=dv c1
  |e=>cC e E m J):ad K B (.loop c) ⟨n,ds,nE s++base⟩ (mem s) (dv s) cC:=
 ad.loop (fun s=>nE s++base) mem dv inv nC b2 s ag
theorem ad.l2{α:Type}{c:Code}{base:List (Nat×Value)}(nE:α->List (Nat×Value))(inv:α->Prop)(nC:α->Nat)(s:α)(ag:inv s)
 (b2:∀s,inv s->ad K B c ⟨n,ds,nE s++base⟩ m J fun e E cM bO=>match e with
  |.normal=>∃c1 l,inv c1/\nC c1<nC s/\E=⟨n,ds,l⟩/\lp l (nE c1++base)/\m.Sublist cM/\bO=J
  |e=>cC e E cM bO):ad K B (.loop c) ⟨n,ds,nE s++base⟩ m J cC:=
 ad.loop (fun s=>nE s++base) (fun _=>m) (fun _=>J) inv nC b2 s ag
theorem ad.F8{c:Code}{E:bK}(h:ad K B c E m J fun e E m J=>match e with
 |.normal=>ad K B (.loop c) E m J cC
 |e=>cC e E m J):ad K B (.loop c) E m J cC:=by
 intro S H al au;obtain⟨e,aY,H1,fS,cM,bO,U,ab,aV,br⟩:=h S H al au;cases e with
 |normal=>
  have br:ad K B (.loop c) fS cM bO cC:=br;obtain⟨bl,aB,H',cy,m',ai,a8,a5,bI,cL⟩:=br aY H1 ab aV;exact⟨bl,aB,H',cy,m',ai,c2.LG U a8,a5,bI,cL⟩
 |exit i=>exact⟨_,aY,H1,fS,cM,bO,c2.pK U (fun q=>by cases q),ab,aV,br⟩
 |goto i=>exact⟨_,aY,H1,fS,cM,bO,c2.pK U (fun q=>by cases q),ab,aV,br⟩
 |ret=>exact⟨_,aY,H1,fS,cM,bO,c2.pK U (fun q=>by cases q),ab,aV,br⟩
 |panic c=>exact⟨_,aY,H1,fS,cM,bO,c2.pK U (fun q=>by cases q),ab,aV,br⟩
 |outgrown=>exact⟨_,aY,H1,fS,cM,bO,c2.pK U (fun q=>by cases q),ab,aV,br⟩
theorem e6.app{bq m m':aU}{a:Nat}{b b':db}(h:e6 m a b b' m'):e6 (bq++m) a b b' (bq++m'):=by
 induction bq with
 |nil=>exact h
 |cons x bq aN=>exact .tail x aN
theorem W.dv{ops rest:List Oper}{bt:Option (List PanicEntry)->bK->aU->an->Prop}{E:bK}{a:Nat}{b:db}{x:List Value×TypeId}(j:b.rowOf=some x)(h:J.le (J.add a x)->(J.add a x) a=some x->W K B ops rest E m (J.add a x) bt):W K B ops rest E ((a,b)::m) J bt:=by
 intro S H al au;obtain⟨a8,a5⟩:=au.ju j;exact h a5 (an.h6 _ _ _) S H al a8
def rA(J:an)(v:Value)(l:List Int):Prop:=∃e,ew J e 1 v l.length (l.map (Value.int .i64))
theorem rA.mono{ai:an}(hle:J.le ai){v:Value}{l:List Int}(h:rA J v l):rA ai v l:=by obtain⟨e,h⟩:=h;exact⟨e,h.mono hle⟩
theorem ZJ{c:Call}{s:List UInt8}{t:TypeId}(ae:o.op=.call c)(aF:c.callee=.builtin .len)(aK:hz l c.args.toList=some [.string ⟨⟨s⟩⟩])(aG:c.argTypes.toList=[t])(ag:pE K.P t=true):ch K B o n ds l m J (.int .i64 s.length):=ZL ae aF aK aG ag
theorem ZH{t:TypeId}{x bw:Operand}{s:List UInt8}{k:IntKind}{i:Int}{b:UInt8}(ae:o.op=.index t x bw)(j:bB l x=some (.string ⟨⟨s⟩⟩))(aq:bB l bw=some (.int k i))(aG:pE K.P t=true)(a2:0<=i)(af:s[i.toNat]?=some b):ch K B o n ds l m J (.int .u8 b.toNat):=ZI ae j aq aG a2 af
end
section
variable {K:di}{B:c6}{n:Nat}{ds:dL}{l:List (Nat×Value)}{m:aU}{J:an}{cC:Exit->bK->aU->an->Prop}
end
structure OC (H H':ah):Prop where
 wf:gZ H'
 bf:H'.bf=H.bf
 av:H.av<=H'.av
 bM:H.bM<=H'.bM
 eN:∀a,a<H.av->H'.mem.get a=H.mem.get a
 j':∀f,f<H.bM->H'.ba.get f=H.ba.get f
open Classical in
def P6 (K:di)(f:FuncId)(ca:List Value)(v:Value)(H:ah):ah:=if h:∃H',iA K.Q f ca H (.returned v) H'/\OC H H' then Classical.choose h else H
abbrev o6:=List (FuncId×List Value×Value)
def MV:o6->FuncId->Option (List Value×Value)
 |[],_=>none
 |(g,ca,v)::R,f=>bif Nat.beq f g then some (ca,v) else MV R f
open Classical in
def uJ (K:di)(R:o6):dI:=fun f args H=>match MV R f with
 |some (ca,v)=>if args=ca then some (.returned v,P6 K f args v H) else none
 |none=>none
def fe(K:di)(B:c6)(R:o6)(ops:List Oper)(a6:List g9)(E:bK)(m:aU)(J:an)(bt:bK->aU->an->Prop):Prop:=
 ∀S H,Sat E S->Inv K.g0 B J m H->∃aB H' cy m' ai,dt K.P (hs K.Q (uJ K R)) (gl K.Q hB (uJ K R)).az ops a6 S H=some (.ok aB H')/\Sat cy aB/\Inv K.g0 B ai m' H'/\bt cy m' ai
section
variable {K:di}{B:c6}{R:o6}{ops:List Oper}{a6:List g9}{E:bK}{m m':aU}{J:an}{o:Oper}{bt:bK->aU->an->Prop}{cC:Exit->bK->aU->an->Prop}
variable {n:Nat}{ds:dL}{l:List (Nat×Value)}{d i g:Nat}{want b:Bool}
theorem ad.Q'(R:o6){id:Nat}{a:Array Oper}(aw:B4 a.toList=none)(iq:x6 a.toList=true)(ao:Cv a.toList=a6)(h:fe K B R a.toList a6 E m J fun E m J=>cC .normal E m J):ad K B (.region id a true) E m J cC:=by
 intro S H al au;obtain⟨aB,H',cy,m',ai,U,ab,aV,br⟩:=h S H al au;refine⟨.normal,aB,H',cy,m',ai,c2.sF K.dN.nD hB (uJ K R) ?_,ab,aV,br⟩;show oR (rZ K.P (gl K.Q hB (uJ K R)).call (gl K.Q hB (uJ K R)).az a.toList S H)=_;rw[C4];unfold rZ;rw[aw];show oR (ty K.P (hs K.Q (uJ K R)) (gl K.Q hB (uJ K R)).az a.toList S H)=_;unfold ty;rw[iq,bH,ao,U];rfl
theorem fe.nil(h:bt E m J):fe K B R ops [] E m J bt:=fun S H al au=>⟨S,H,E,m,J,rfl,al,au,h⟩
theorem fe.split(af:look l d=some (.bool b))(U:b=true->fe K B R ops a6 ⟨n,ds,(d,.bool true)::l⟩ m J bt)(a2:b=false->fe K B R ops a6 ⟨n,ds,(d,.bool false)::l⟩ m J bt):fe K B R ops a6 ⟨n,ds,l⟩ m J bt:=by
 intro S H al au;have key:∀c:Bool,b=c->Sat ⟨n,ds,(d,.bool c)::l⟩ S:=fun c e=>by
  subst e;refine⟨al.n,al.ds,al.bu,al.a7,al.b3,al.has,fun t v q=>?_⟩;have aP:(bif Nat.beq t d then some (Value.bool b) else look l t)=some v:=q;cases bY:Nat.beq t d with
  |true=>rw[bY,bH] at aP;obtain rfl:=dB bY;rw[<-aP];exact al.get _ _ af
  |false=>rw[bY,cZ] at aP;exact al.get t v aP
 cases b with
 |true=>exact U rfl S H (key true rfl) au
 |false=>exact a2 rfl S H (key false rfl) au
theorem fe.NU{v:Value}(aq:nth ops i=some o)(fm:∀S,Sat ⟨n,ds,l⟩ S->eI ops S.T o=some true)(ax:o.dst=some d)(aE:Nat.blt d n=true)(aD:ch K B o n ds l m J v)(h:fe K B R ops a6 ⟨n,ds,(d,v)::l⟩ m J bt):fe K B R ops (.val i::a6) ⟨n,ds,l⟩ m J bt:=by
 intro S H al au;obtain⟨aY,s1,s2⟩:=al.put (dst:=some d) aE v;obtain⟨aB,H',cy,m',ai,U,ab,aV,br⟩:=h aY H s2 au;refine⟨aB,H',cy,m',ai,?_,ab,aV,br⟩;show iv ops i (kA K.P _ _ ops S H (dt K.P _ _ ops a6))=_;unfold iv;rw[aq];show kA K.P _ _ ops S H (dt K.P _ _ ops a6) o=_;unfold kA;rw[fm S al];show xd S H o.dst (dt K.P _ _ ops a6) (cc K.P _ _ S H o)=_;rw[aD _ _ S H al au,ax];show(bif Nat.beq H.av H.av then l7 (dt K.P _ _ ops a6) H (S.put (some d) v) else none)=_;rw[ga,bH,s1];exact U
theorem fe.ZX(aq:nth ops i=some o)(fm:∀S,Sat ⟨n,ds,l⟩ S->eI ops S.T o=some false)(ax:o.dst=some d)(aE:Nat.blt d n=true)(h:fe K B R ops a6 ⟨n,ds,(d,undef)::l⟩ m J bt):fe K B R ops (.val i::a6) ⟨n,ds,l⟩ m J bt:=by
 intro S H al au;obtain⟨aY,s1,s2⟩:=al.put (dst:=some d) aE undef;obtain⟨aB,H',cy,m',ai,U,ab,aV,br⟩:=h aY H s2 au;refine⟨aB,H',cy,m',ai,?_,ab,aV,br⟩;show iv ops i (kA K.P _ _ ops S H (dt K.P _ _ ops a6))=_;unfold iv;rw[aq];show kA K.P _ _ ops S H (dt K.P _ _ ops a6) o=_;unfold kA;rw[fm S al];show l7 (dt K.P _ _ ops a6) H (S.put o.dst undef)=_;rw[ax,s1];exact U
theorem Sn(ar:o.guard=none):∀S,Sat ⟨n,ds,l⟩ S->eI ops S.T o=some true:=fun S al=>by unfold eI;rw[ar]
theorem JK(ar:jF ops o=some (g,want))(af:look l g=some (.bool b))(hw:(b==want)=true):∀S,Sat ⟨n,ds,l⟩ S->eI ops S.T o=some true:=fun S al=>by rw[vI ar (al.get g _ af),hw]
theorem JJ(ar:jF ops o=some (g,want))(af:look l g=some (.bool b))(hw:(b==want)=false):∀S,Sat ⟨n,ds,l⟩ S->eI ops S.T o=some false:=fun S al=>by rw[vI ar (al.get g _ af),hw]
theorem So(ar:jF ops o=some (g,want))(af:look l g=some undef):∀S,Sat ⟨n,ds,l⟩ S->eI ops S.T o=some false:=fun S al=>SD ar (al.get g _ af)
theorem fe.val{v:Value}(aq:nth ops i=some o)(ar:o.guard=none)(ax:o.dst=some d)(aE:Nat.blt d n=true)(aD:ch K B o n ds l m J v)(h:fe K B R ops a6 ⟨n,ds,(d,v)::l⟩ m J bt):fe K B R ops (.val i::a6) ⟨n,ds,l⟩ m J bt:=fe.NU aq (Sn ar) ax aE aD h
theorem fe.Hc{v:Value}(aq:nth ops i=some o)(ar:jF ops o=some (g,want))(af:look l g=some (.bool b))(hw:(b==want)=true)(ax:o.dst=some d)(aE:Nat.blt d n=true)(aD:ch K B o n ds l m J v)(h:fe K B R ops a6 ⟨n,ds,(d,v)::l⟩ m J bt):fe K B R ops (.val i::a6) ⟨n,ds,l⟩ m J bt:=fe.NU aq (JK ar af hw) ax aE aD h
theorem fe.ZW(aq:nth ops i=some o)(ar:jF ops o=some (g,want))(af:look l g=some (.bool b))(hw:(b==want)=false)(ax:o.dst=some d)(aE:Nat.blt d n=true)(h:fe K B R ops a6 ⟨n,ds,(d,undef)::l⟩ m J bt):fe K B R ops (.val i::a6) ⟨n,ds,l⟩ m J bt:=fe.ZX aq (JJ ar af hw) ax aE h
theorem lB.of{v u:Value}(aq:nth ops i=some o)(fm:∀S,Sat ⟨n,ds,l⟩ S->eI ops S.T o=some true)(ax:o.dst=some d)(aD:ch K B o n ds l m J v)(hu:look l d=some u)(he:ee 8 v u=true):lB K B ops n ds l m J i:=by
 intro call az S H al au;unfold qt;rw[aq];show AU K.P call az ops S H o (eI ops S.T o)=true;rw[fm S al];show AV H.av S.T o.dst (cc K.P call az S H o)=true;rw[aD _ _ S H al au,ax];show(Nat.beq H.av H.av&&(match S.T.get d with|some u=>ee 8 v u|none=>false))=true
 rw[ga,al.get d u hu];simpa using he
theorem lB.Hc{v u:Value}(aq:nth ops i=some o)(ar:jF ops o=some (g,want))(af:look l g=some (.bool b))(hw:(b==want)=true)(ax:o.dst=some d)(aD:ch K B o n ds l m J v)(hu:look l d=some u)(he:ee 8 v u=true):lB K B ops n ds l m J i:=lB.of aq (JK ar af hw) ax aD hu he
theorem lB.no(aq:nth ops i=some o)(fm:∀S,Sat ⟨n,ds,l⟩ S->eI ops S.T o=some false):lB K B ops n ds l m J i:=by
 intro call az S H al au;unfold qt;rw[aq];show AU K.P call az ops S H o (eI ops S.T o)=true;rw[fm S al];rfl
theorem z1{op:BinOp}{t dq:TypeId}{x y:Operand}{a c:Bool}{v:Value}(ae:o.op=.binOp op t x y dq)(j:bB l x=some (.bool a))(aC:bB l y=some (.bool c))(dd:op=.eql/\v=.bool (decide (a=c))\/op=.neq/\v=.bool (decide (¬a=c)))(aG:K.P.underlying t=some .bool):ch K B o n ds l m J v:=by
 intro call az S H al au;unfold cc eh;simp only[ae];show ja K.P _ op t (aR S.T H x) (aR S.T H y)=_;rw[cX al H j,cX al H aC];show orElse (ek K.P S.T H o) _=_;have tU:en K.P (Op.equal t (.bool a) (.bool c))=some (decide (a=c)):=by
  show en K.P (Op.equalIn (9999+1) t (.bool a) (.bool c))=_;unfold Op.equalIn;rw[eW (A9 aG)];show some (a==c)=_;cases a<;>cases c<;>rfl
 have:ek K.P S.T H o=some (.val v H):=by
  rcases dd with⟨rfl,rfl⟩|⟨rfl,rfl⟩
  ·refine lk al (by rw[ae];rfl) j aC rfl rfl ?_ rfl;unfold execOp;simp only[ae];rw[gx al H j,gx al H aC];have af:binOp .eql t (.bool a) (.bool c)=(do pure (.bool (<-Op.equal t (.bool a) (.bool c)))):=by simp[binOp]
   have ar:en K.P (eqGuard .eql t x y (.bool a) (.bool c))=some ():=rfl;rw[eW (a:=.bool (decide (a=c)))]
   ·rfl
   rw[eW ar,af,eW tU];rfl
  ·refine lk al (by rw[ae];rfl) j aC rfl rfl ?_ rfl;unfold execOp;simp only[ae];rw[gx al H j,gx al H aC];have af:binOp .neq t (.bool a) (.bool c)=(do pure (.bool (!(<-Op.equal t (.bool a) (.bool c))))):=by simp[binOp]
   have ar:en K.P (eqGuard .neq t x y (.bool a) (.bool c))=some ():=rfl;rw[eW (a:=.bool (decide (¬a=c)))]
   ·rfl
   rw[eW ar,af,eW tU];show some (Value.bool (!decide (a=c)))=_;rw[show(!decide (a=c))=decide (¬a=c) by simp]
 rw[this];rfl
theorem NW(b:Bool)(n:Nat):ee (n+1) (.bool b) (.bool b)=true:=by cases b<;>rfl
theorem NZ(s:ByteArray)(n:Nat):ee (n+1) (.string s) (.string s)=true:=by
 show decide (s.data.toList=s.data.toList)=true;simp
end
section
variable {K:di}{B:c6}{ops:List Oper}{a6:List g9}{E:bK}{m m':aU}{J:an}{o:Oper}{bt:bK->aU->an->Prop}{cC:Exit->bK->aU->an->Prop}
variable {n:Nat}{ds:dL}{l:List (Nat×Value)}{d i:Nat}
end
section
variable {K:di}{B:c6}{ops:List Oper}{a6:List g9}{F:List (FuncId×List Value)}{m m':aU}{J:an}{o:Oper}{bt:bK->aU->an->Prop}
variable {n:Nat}{ds:dL}{l:List (Nat×Value)}{d i:Nat}
end
open Classical
def rowOf (w:World)(g:Nat):Option (List Value×TypeId):=match w.heap[g]? with
 |some (.cells c e _)=>some (c.toList,e)
 |_=>none
theorem MZ{w:World}{g:Nat}{cs:List Value}{e:TypeId}(h:rowOf w g=some (cs,e)):∃c f,w.heap[g]?=some (.cells c e f)/\c.toList=cs:=by
 unfold rowOf at h;split at h
 ·rename_i c bl f aF;injection h with h;injection h with U ab
  subst U;subst ab;exact⟨c,f,aF,rfl⟩
 ·cases h
theorem GL{w:World}{g:Nat}{c:Array Value}{e:TypeId}{f:Nat×Nat}(h:w.heap[g]?=some (.cells c e f)):rowOf w g=some (c.toList,e):=by
 unfold rowOf;rw[h]
def mP (P:Program)(w:World):bm:=fun g=>match rowOf w g with
 |some (cs,e)=>some ⟨g,cs.length,P.cellsOf e⟩
 |none=>none
theorem zs{P:Program}{w:World}{g:Nat}{L:Cre.Loc}(h:mP P w g=some L):∃cs e,rowOf w g=some (cs,e)/\L=⟨g,cs.length,P.cellsOf e⟩:=by
 unfold mP at h;cases ap:rowOf w g with
 |none=>rw[ap] at h;cases h
 |some x=>obtain⟨cs,e⟩:=x;rw[ap] at h;injection h with h;exact⟨cs,e,rfl,h.symm⟩
theorem LY{P:Program}{w:World}{g:Nat}(h:(rowOf w g).isSome):∃L,mP P w g=some L/\L.r=g:=by
 obtain⟨⟨cs,e⟩,j⟩:=Option.isSome_iff_exists.1 h;unfold mP;rw[j];exact⟨_,rfl,rfl⟩
theorem Ir{μ:bm}:∀(n:Nat) (v:Value),SizeOf.sizeOf v<=n->∃ig,a3 μ ig v:=by
 intro n;induction n with
 |zero=>intro v h;cases v<;>simp at h
 |succ n aN=>
  intro v h;have arr:∀cs:Array Value,SizeOf.sizeOf cs<=n->∃ca:Array Value,ca.size=cs.size/\∀(i:Nat) v v',ca[i]?=some v->cs[i]?=some v'->a3 μ v v':=fun cs ag=>by
   have key:∀i:Fin cs.size,∃ig,a3 μ ig cs[i]:=fun i=>aN _ (by have:=Array.sizeOf_getElem cs i.1 i.2;have e:cs[i]=cs[i.1]:=rfl;rw[e];omega);refine⟨Array.ofFn fun i=>Classical.choose (key i),by simp,fun i v v' U ab=>?_⟩;rw[Array.getElem?_ofFn] at U;split at U
   ·rename_i aq;injection U with U;subst U
    rw[u2 aq] at ab;injection ab with ab;subst ab
    exact Oz (key ⟨i,aq⟩)
   ·cases U
  by_cases ae:dY v=true
  ·exact⟨_,.rp v ae⟩
  ·cases v with
   |agg cs=>
    obtain⟨ca,U,ab⟩:=arr cs (by simp at h;omega);exact⟨_,.agg ca cs U ab⟩
   |tuple cs=>
    obtain⟨ca,U,ab⟩:=arr cs (by simp at h;omega);exact⟨_,.tuple ca cs U ab⟩
   |_=>exact absurd rfl ae
def jz (P:Program)(w:World)(v:Value):Value:=match v with
 |.pointer (some ⟨r,off,none⟩)=>if(rowOf w r).isSome then v else .chan none
 |.slice (some a) len cap=>if a.spot=none/\(rowOf w a.block).isSome/\cap<cf then v else if len=0/\cap=0 then .slice (some ⟨0,0,some 0⟩) 0 0 else .chan none
 |v=>if isAtom v=true then v else Classical.choose (Ir (μ:=mP P w) (SizeOf.sizeOf v) v (c9 _))
theorem AI{P:Program}{w:World}{v:Value}(h:isAtom v=true):jz P w v=v:=by
 unfold jz;split
 ·simp[isAtom] at h
 ·simp[isAtom] at h
 ·rw[bs h]
theorem Dm{P:Program}{w:World}(v:Value):a3 (mP P w) (jz P w v) v:=by
 unfold jz;split
 ·rename_i r off;split
  ·rename_i q;obtain⟨L,U,ab⟩:=LY (P:=P) q;have:=a3.ptr r off L U;rwa [ab] at this
  ·exact .rp _ rfl
 ·rename_i a len cap;split
  ·rename_i q;obtain⟨r,off,sp⟩:=a;obtain⟨lm,aQ,aP⟩:=q;have lm:sp=none:=lm;subst lm;obtain⟨L,U,ab⟩:=LY (P:=P) aQ;have ab:L.r=r:=ab;have:=a3.kb r off len cap L U aP;rwa [ab] at this
  ·split
   ·rename_i q;obtain⟨rfl,rfl⟩:=q;exact .rj a
   ·exact .rp _ rfl
 ·split
  ·exact .atom _ (by assumption)
  ·exact Oz (Ir (μ:=mP P w) (SizeOf.sizeOf v) v (c9 _))
def oS (P:Program)(w:World)(g:Nat):Option (List Value×TypeId):=match rowOf w g with
 |some (cs,e)=>some (cs.map (jz P w),e)
 |none=>none
theorem MX{P:Program}{w:World}{g:Nat}{cs:List Value}{e:TypeId}(h:oS P w g=some (cs,e)):∃c,rowOf w g=some (c,e)/\cs=c.map (jz P w):=by
 unfold oS at h;split at h
 ·rename_i c bl q;injection h with h;injection h with U ab
  subst U;subst ab;exact⟨c,q,rfl⟩
 ·cases h
theorem CC{P:Program}{w:World}{g:Nat}{cs:List Value}{e:TypeId}(h:rowOf w g=some (cs,e)):oS P w g=some (cs.map (jz P w),e):=by
 unfold oS;rw[h]
def vi (P:Program)(w:World)(g:Nat):ef:=match oS P w g with
 |some (cs,e)=>.row cs e false 0 cs.length true
 |none=>.dead
def us (P:Program)(w:World):aL ef:=match rl ((List.range w.heap.size).map (vi P w)) 0 .leaf with|some t=>t|none=>.leaf
theorem B9{P:Program}{w:World}(g:Nat):(us P w).get g=if g<w.heap.size then some (vi P w g) else none:=by
 obtain⟨T,cw⟩:=ND ((List.range w.heap.size).map (vi P w)) 0 .leaf (fun k hk=>absurd hk (by omega));unfold us;rw[cw];simp only
 rw[G4 cw];simp only[fj,true_and,jw,List.length_range,lE,Nat.sub_zero];split
 ·rename_i h;rw[mg,List.getElem?_range h];rfl
 ·rfl
def qL (P:Program)(w:World):ah:=⟨us P w,w.heap.size,.leaf,0,w.heap.size⟩
theorem MY{P:Program}{w:World}{g:Nat}{x:List Value×TypeId}(h:oS P w g=some x):g<w.heap.size:=by
 obtain⟨cs,e⟩:=x;obtain⟨c,U,_⟩:=MX h;obtain⟨bo,f,ab,_⟩:=MZ U;exact(C3.1 ab).1
theorem KO{P:Program}{w:World}{g:Nat}{cs:List Value}{e:TypeId}(h:oS P w g=some (cs,e)):(qL P w).mem.get g=some (.row cs e false 0 cs.length true):=by
 show(us P w).get g=_;rw[B9,bs (MY h)];unfold vi;rw[h]
theorem KN{P:Program}{w:World}{g:Nat}{b:ef}(h:(qL P w).mem.get g=some b):g<w.heap.size/\(b=.dead\/∃cs e,oS P w g=some (cs,e)/\b=.row cs e false 0 cs.length true):=by
 have h:(us P w).get g=some b:=h;rw[B9] at h;split at h
 ·rename_i ar;refine⟨ar,?_⟩;injection h with h
  unfold vi at h;cases ap:oS P w g with
  |none=>rw[ap] at h;exact .inl h.symm
  |some x=>obtain⟨cs,e⟩:=x;rw[ap] at h;exact .inr ⟨cs,e,rfl,h.symm⟩
 ·cases h
theorem R5(P:Program)(w:World):bz P (fun k=>k<w.heap.size) w (mP P w) (qL P w) w:=by
 have mlt:∀x L,mP P w x=some L->x<w.heap.size:=fun x L j=>by
  obtain⟨cs,e,U,_⟩:=zs j;exact MY (CC (P:=P) U)
 refine⟨Kept.refl _ _,fun _ hk=>hk,?_,?_,mlt,?_,?_,?_,c9 _,?_,?_,?_⟩
 ·intro g L q;obtain⟨c,e,ab,rfl⟩:=zs q;obtain⟨bo,f,aV,rfl⟩:=MZ ab;refine⟨_,_,KO (CC ab),aV,rfl,by simp,rfl,by simp,fun _=>by simp,fun i v v' x y=>?_,⟨fun off ae _ _=>by simpa using ae,fun q=>by cases q⟩⟩;rw[mg] at x;have nQ:bo.toList[i]?=some v':=by simpa using y
  rw[nQ] at x;injection x with x;subst x
  exact Dm v'
 ·intro x y fL fU dy j aC ap;obtain⟨_,_,_,rfl⟩:=zs j;obtain⟨_,_,_,rfl⟩:=zs aC;exact absurd ap dy
 ·intro x L j _;obtain⟨_,_,_,rfl⟩:=zs j;rfl
 ·intro x L j ar _;have:=mlt x L j;have ar:w.heap.size<=x:=ar;omega
 ·intro g c e o f z s _ hm;obtain⟨ar,q⟩:=KN hm;rcases q with q|⟨cs,bl,aQ,aP⟩
  ·cases q
  ·obtain⟨tn,U,_⟩:=MX aQ;refine⟨⟨g,tn.length,P.cellsOf bl⟩,?_⟩;unfold mP;rw[U]
 ·intro x c e f z s hm;obtain⟨_,q⟩:=KN hm;rcases q with q|⟨_,_,_,q⟩<;>cases q
 ·intro f l x aw;cases aw
 ·intro f l aw;cases aw
def pF (P:Program)(w:World):an:=oS P w
theorem Va(P:Program)(w:World):Inv w.heap.size (iZ [] (qL P w) (pF P w)) (pF P w) [] (qL P w):=by
 refine⟨⟨fun a aK=>?_,fun a aK=>?_,fun f ay=>absurd ay (Nat.not_lt_zero _),fun f _=>rfl,c9 _⟩,rfl,c9 _,c9 _,fun _ _ _=>rfl,fun _ _=>rfl,fun a c e h=>?_,an.le.refl _,fun a x U ab=>?_,fun a b h=>(by cases h),(fun a b h=>by cases h),List.nodup_nil⟩
 ·refine⟨vi P w a,?_⟩;show(us P w).get a=_;rw[B9,bs (show a<w.heap.size from aK)]
 ·show(us P w).get a=none;rw[B9,a1 (by have aK:w.heap.size<=a:=aK;omega)]
 ·exact⟨_,_,_,_,KO h⟩
 ·rw[show pF P w a=none from U] at ab;cases ab
section
variable {K:di}
theorem Xf{w:World}{f:FuncId}{fn:Func}{c:Code}{args:List Value}{bJ:Array Value}{b:Bool}(eQ:K.Q.ok (fun k=>k<w.heap.size) w)(ar:K.g0=w.heap.size)(ay:K.P.funcs[f]?=some fn)(af:fn.body=some c)(aw:bp (mP K.P w) args bJ.toList)(cg:Fn K f args [] (pF K.P w) (fun v m J=>v=.bool b)):
 Calls K.P f bJ w fun e aZ=>e=.returned (.bool b)/\Below w.heap.size w aZ:=by
 have au:Inv K.g0 (iZ [] (qL K.P w) (pF K.P w)) (pF K.P w) [] (qL K.P w):=by rw[ar];exact Va K.P w
 obtain⟨v,H',ai,m',U,ab,rfl⟩:=cg (qL K.P w) au;have ag:=U _ w eQ f args (qL K.P w) (.returned (.bool b)) H' (by unfold nc;rw[bs ⟨rfl,rfl,rfl⟩]) (mP K.P w) w bJ.toList (R5 K.P w) aw;rcases ag with⟨v,v',aZ,a4,_,q,_⟩|⟨_,q⟩
 ·rw[x8 ay af (K.dN.num f fn ay (by rw[af];rfl))] at q;cases q
 ·refine Calls.mono q fun bl aZ bY=>?_;obtain⟨a4,b4,b0,cI⟩:=bY;cases bl with
  |returned v'=>
   have aD:a3 a4 (.bool b) v':=cI;rw[aD.xO];exact⟨rfl,b4.below.below⟩
  |panicked c=>exact cI.elim
  |outgrown=>exact cI.elim
theorem Fn.closed{H0:ah}{f:FuncId}{fn:Func}{c:Code}{v:Value}{J:an}(ao:plain v=true)(ay:K.P.funcs[f]?=some fn)(af:fn.body=some c)(iq:∀B w,K.Q.ok B w->Laid K.P w H0/\Ar H0 B)
 (aF:∀w,Laid K.P w H0->Calls K.P f #[] w fun e aZ=>e=.returned v/\Below w.heap.size w aZ):Fn K f [] [] J (fun u m' ai=>u=v/\m'=[]/\ai=J):=by
 intro H au;refine⟨v,H,J,[],fun B w0 eQ=>?_,au,rfl,rfl,rfl⟩;obtain⟨tY,fm⟩:=iq B w0 eQ;intro cd bJ H' e o1 he μ w aaY h aw;unfold nc at he;split at he
 ·rename_i q;obtain⟨rfl,rfl,rfl⟩:=q;simp only[bL,cU] at he;obtain⟨rfl,rfl⟩:=he;obtain rfl:=aw.ie;refine .inr ⟨x8 ay af (K.dN.num cd fn ay (by rw[af];rfl)) _ w,?_⟩;refine Calls.mono (aF w (tY.eN fm h.below)) fun bl aZ ⟨lO,tR⟩=>?_;subst lO;exact⟨μ,h.grow tR,Step.refl _ _,ll ao⟩
 ·cases he
def Hk(P:Program)(H0:ah):eF P where
 ok B w:=Laid P w H0/\Ar H0 B
 up B w0 gk gB h fm hk:=⟨h.1.eN h.2 hk,fun g b ar af=>fm g (h.2 g b ar af)⟩
end
theorem NY{b:Option Addr}(h:addrEq b b=true)(l c n:Nat):ee (n+1) (.slice b l c) (.slice b l c)=true:=by
 show(addrEq b b&&Nat.beq l l&&Nat.beq c c)=true;rw[ga,ga,h];rfl
theorem ZZ{n:Nat}:∀{l:List Value},(∀v∈l,ee n v v=true)->ee (n+1) (.agg l.toArray) (.agg l.toArray)=true:=by
 intro l h;show iU (ee n) l l=true;induction l with
 |nil=>rfl
 |cons a l aN=>
  show(ee n a a&&iU (ee n) l l)=true;rw[h a (.head _),aN (fun v aD=>h v (.tail _ aD))];rfl
theorem Z2{n:Nat}:∀v∈([]:List Value),ee n v v=true:=fun v aD=>by cases aD
theorem Z1{n:Nat}{a:Value}{l:List Value}(h:ee n a a=true)(aw:∀v∈l,ee n v v=true):∀v∈a::l,ee n v v=true:=fun v aD=>by
 rcases fy.1 aD with rfl|q
 ·exact h
 ·exact aw v q
section
variable {K:di}{B:c6}{o:Oper}{n:Nat}{ds:dL}{l:List (Nat×Value)}{m m':aU}{J:an}{dS:bK->aU->an->Prop}{d:Nat}{cC:Exit->bK->aU->an->Prop}
theorem ad.GG{c:Code}{E:bK}(ao:m'.Perm m)(h:ad K B c E m' J cC):ad K B c E m J cC:=fun S H al au=>h S H al (au.perm ao.symm)
theorem jg.perm{g0 sz k:Nat}{v:Value}{cs:List Value}(ao:m.Perm m')(h:jg g0 B J m sz v k cs):jg g0 B J m' sz v k cs:=fun H au=>h H (au.perm ao.symm)
theorem zO{α:Type}{x:α}{bq r:List α}:(x::(bq++r)).Perm (bq++x::r):=List.perm_middle.symm
theorem Mx{α:Type}{x y:α}{bq r:List α}:(x::y::(bq++r)).Perm (bq++x::y::r):=(zO.cons x).trans zO
theorem My{α:Type}{x y z:α}{bq r:List α}:(x::y::z::(bq++r)).Perm (bq++x::y::z::r):=(Mx.cons x).trans zO
theorem Xp{α:Type}{x y z u:α}{bq r:List α}:(x::y::z::u::(bq++r)).Perm (bq++x::y::z::u::r):=(My.cons x).trans zO
theorem jg.own{g0:Nat}{e:TypeId}{sz k c a:Nat}{cells:List Value}(hm:(a,db.row cells e)∈m)(aw:cells.length=k*sz):jg g0 B J m sz (.slice (some ⟨a,0,none⟩) k c) k cells:=by
 intro H au;refine⟨rfl,?_⟩;have g:=(au.own _ _ hm).1;have g:H.mem.get a=some (.row cells e false 0 0 false):=g;unfold hd;cases k with
 |zero=>
  simp only
  rw[qf] at aw;rw[nY aw]
 |succ k=>
  simp only[g];rw[rW,kd,sT (by omega),jY (by omega)]
theorem Of{c:Call}{t fK e:TypeId}{sz k aa:Nat}{fc cells new:List Value}{v x:Value}{bq dK:aU}{fz:TypeDesc}(ae:o.op=.call c)(aF:c.callee=.builtin .append)(ax:o.dst=some d)(aE:Nat.blt d n=true)(aK:hz l c.args.toList=some [v,x])(nw:c.argTypes.toList=[t,fK])(aG:jd K.P t=some (e,sz,fc))(h0:K.P.underlying fK=some fz)(pz:∀i,fz≠.int i)
 (aD:Acc e sz v k cells bq)(hm:m.Perm (bq++dK))(j:jg K.g0 B J m sz x aa new)(dQ:new.length=aa*sz)(dV:new.all dY=true)(aw:k+aa<=1000000)
 (h:∀w g7,Acc e sz w (k+aa) (cells++new) g7->dS ⟨n,ds,(d,w)::l⟩ (g7++dK) J):g' K B o ⟨n,ds,l⟩ m J dS:=fun S H al au=>
 aah ae aF ax aE aK nw aG h0 pz aD rfl (j.perm hm) dQ dV aw h S H al (au.perm hm)
theorem Acc.pU{c:Code}{e:TypeId}{sz k:Nat}{v:Value}{cells:List Value}{bq dK:aU}{E:bK}(h:Acc e sz v k cells bq)(hm:m.Perm (bq++dK))(hk:∀ai,J.le ai->ew ai e sz v k cells->ad K B c E dK ai cC):ad K B c E m J cC:=
 ad.GG hm.symm (h.dv rfl hk)
end
end
end Go.Opn

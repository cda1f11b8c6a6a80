/- A part of the proof of TableRounds. -/
import Derived.Test.YtfdhclnfkafebaaGreatDoorCan
import Derived.ChangeArms
import Derived.DataReads
import Derived.Carry
import Derived.ChangeSame
import Derived.OpenShut
set_option linter.unusedVariables false
set_option linter.unusedSimpArgs false
namespace Go.Opn
noncomputable section
open Go.Cre Go.RowKit
section
variable {K:ef}{B:dy}{o:Oper}{n:Nat}{ds:eK}{l:List (Nat×Value)}{m m':a8}{J:an}{e8:cC->a8->an->Prop}{d:Nat}
theorem Acc.et{c:Code}{e:TypeId}{sz k:Nat}{v:Value}{cells:List Value}{bZ dc:a8}{E:cC}{c7:Exit->cC->a8->an->Prop}(h:Acc e sz v k cells bZ)(hm:m=bZ++dc)(hk:∀ah,J.le ah->fP ah e sz v k cells->ae K B c E dc ah c7):ae K B c E m J c7:=by
 subst hm;cases h with
 |nil=>exact hk J (an.le.refl _) .nil
 |js a=>exact hk J (an.le.refl _) (.js _ _ _ (by decide))
 |@opn a k cells rest z aD aL=>
  intro S H ax aH;obtain⟨a7,a0⟩:=aH.h9 (m:=dc) (x:=(cells,e)) rfl;exact hk _ a0 (.row (an.g7 _ _ _) (by rw[hi,dd (by omega)]) aD (fun q=>absurd rfl q) (fun _=>rfl)) S H ax a7
 |@cap a k C cells full el ad af aV bq=>
  intro S H ax aH;obtain⟨a7,a0⟩:=aH.h9 (m:=dc) (x:=(full,el)) rfl;exact hk _ a0 (.row (an.g7 _ _ _) af (by rw[<-af,dY,ad,gn (e0 _ aV)]) (fun _=>⟨aV,bq⟩) (fun q=>absurd q (ED bq))) S H ax a7
end
section
variable {K:ef}{B:dy}{o:Oper}{n:Nat}{ds:eK}{l:List (Nat×Value)}{m m':a8}{J:an}{e8:cC->a8->an->Prop}{d:Nat}{c7:Exit->cC->a8->an->Prop}
theorem wrap_u8{n:Int}(ad:0<=n)(af:n<=255):IntKind.u8.wrap n=n:=by
 unfold IntKind.wrap IntKind.signed IntKind.bits;simp only[En,Eo,Dl];omega
def MJ (a b:Int):BinOp->Option Int
 |.add=>some (a+b)
 |.sub=>some (a -b)
 |.mul=>some (a*b)
 |_=>none
theorem apr{op:BinOp}{t dH:TypeId}{x y:Operand}{k:IntKind}{a b c c':Int}(aj:o.op=.binOp op t x y dH)(ab:bT l x=some (.int k a))(aB:bT l y=some (.int k b))(az:MJ a b op=some c)(hw:k.wrap c=c'):c5 K B o n ds l m J (.int k c'):=by
 refine aan aj ab aB ?_;cases op<;>simp only[MJ,cD,reduceCtorEq] at az<;>subst az<;>subst hw<;>rfl
def isIface (P:Program)(t:TypeId):Bool:=match P.underlying t with|some (.interface _)=>true|_=>false
def Ky:Value->Option Bool
 |.nilIface=>some true
 |.iface _ _=>some false
 |_=>none
theorem aal{t dH:TypeId}{x:Operand}{v:Value}{b:Bool}(aj:o.op=.binOp .eql t x (.const .nilIface) dH)(ab:bT l x=some v)(az:Ky v=some b)(aS:isIface K.P t=true):c5 K B o n ds l m J (.bool b):=by
 intro call aQ S H ax aH;have aB:bT l (.const .nilIface)=some .nilIface:=rfl;unfold isIface at aS;split at aS
 ·rename_i KS hu;cases v with
  |nilIface=>
   simp only[Ky,cD] at az;subst az;unfold cL e3;simp only[aj];show l6 K.P _ .eql t (ba S.T H x) (ba S.T H (.const .nilIface))=_;rw[dg ax H ab,dg ax H aB];show orElse (fk K.P S.T H o) _=_;have:fk K.P S.T H o=some (.val (.bool true) H):=by
    refine pM ax (by rw[aj];rfl) ab aB rfl rfl ?_ rfl;unfold execOp;simp only[aj];rw[hS ax H ab,hS ax H aB];rw[gB (a:=.bool true)]
    ·rfl
    rw[gB (a:=())]
    ·have ak:binOp .eql t .nilIface .nilIface=(do pure (.bool (<-Op.equal t .nilIface .nilIface))):=by simp[binOp]
     rw[ak,gB (a:=true)]
     ·rfl
     show fc K.P (Op.equalIn (9999+1) t .nilIface .nilIface)=_;unfold Op.equalIn;rw[gB (Jz hu)];rfl
    ·unfold eqGuard;simp
     rfl
   rw[this];rfl
  |iface lJ v'=>
   simp only[Ky,cD] at az;subst az;cases ap:fk K.P S.T H o with
   |none=>
    refine T2 aj (dg ax H ab) (dg ax H aB) (fun _ _ q=>by cases q) ap ?_;unfold vG wB;simp only[hu]
   |some r=>
    unfold cL e3;simp only[aj];show l6 K.P _ .eql t (ba S.T H x) (ba S.T H (.const .nilIface))=_;rw[dg ax H ab,dg ax H aB];show orElse (fk K.P S.T H o) _=_;have:fk K.P S.T H o=some (.val (.bool false) H):=by
     have fa:plain (.iface lJ v')=true:=by
      cases q:plain (.iface lJ v') with
      |true=>rfl
      |false=>
       exfalso;unfold fk at ap;rw[aj] at ap;have:fz S.T H (Op.binOp BinOp.eql t x (.const .nilIface) dH).operands.toList=some [.iface lJ v',.nilIface]:=by
        show fz S.T H [x,.const .nilIface]=_;simp only[fz];rw[dg ax H ab,dg ax H aB]
       rw[this] at ap;simp only[B4,q,En,dB] at ap;cases ap
     refine pM ax (by rw[aj];rfl) ab aB fa rfl ?_ rfl;unfold execOp;simp only[aj];rw[hS ax H ab,hS ax H aB];rw[gB (a:=.bool false)]
     ·rfl
     rw[gB (a:=())]
     ·have ak:binOp .eql t (.iface lJ v') .nilIface=(do pure (.bool (<-Op.equal t (.iface lJ v') .nilIface))):=by simp[binOp]
      rw[ak,gB (a:=false)]
      ·rfl
      show fc K.P (Op.equalIn (9999+1) t (.iface lJ v') .nilIface)=_;unfold Op.equalIn;rw[gB (Jz hu)];rfl
     ·unfold eqGuard;simp
      rfl
    rw[this];rfl
  |_=>simp[Ky] at az
 ·cases aS
theorem Vb{S:a5}{ops:List Oper}{d:Nat}{want:Bool}(aF:lr ops o=some (d,want))(ak:S.T.get d=some undef):gp ops S.T o=some false:=by
 unfold lr at aF;unfold gp;cases q:o.guard with
 |none=>rw[q] at aF;cases aF
 |some x=>
  obtain⟨j,w⟩:=x;rw[q] at aF;show u3 ops S.T (j,w)=_;unfold u3;simp only at aF ⊢;cases aE:nth ops j with
  |none=>rfl
  |some p=>
   rw[aE] at aF;simp only at aF ⊢;cases aq:p.dst with
   |none=>rfl
   |some ln=>
    rw[aq] at aF;simp only[cD,dK] at aF;obtain⟨rfl,rfl⟩:=aF;simp only[ak];rfl
theorem W.agH{ops rest:List Oper}{bF:Option (List PanicEntry)->cC->a8->an->Prop}{d e:Nat}{want:Bool}(aF:lr ops o=some (d,want))(ak:look l d=some undef)(aq:o.dst=some e)(aE:Nat.blt e n=true)(h:W K B ops rest ⟨n,ds,(e,undef)::l⟩ m J bF):W K B ops (o::rest) ⟨n,ds,l⟩ m J bF:=by
 intro S H ax aH;have e4:=Vb aF (ax.get d _ ak);obtain⟨bl,s1,s2⟩:=ax.put (dst:=some e) aE undef;obtain⟨p,aP,H',cV,m',ah,a7,a0,bJ,cO⟩:=h bl H s2 aH;refine⟨p,aP,H',cV,m',ah,.cons il lG ?_ a7,a0,bJ,cO⟩;unfold one;rw[e4];show ot H (S.put o.dst undef)=_;rw[aq,s1];rfl
theorem ae.hf{c:Code}(k:Nat)(news:List (Nat×Value))(ad:ae K B c ⟨n,ds,l⟩ m J fun e cV m' ah=>match e with
 |.normal=>(∃l',cV=⟨n,ds,l'⟩/\o1 l' (news++l.drop k))/\m.Sublist m'/\ah=J
 |e=>c7 e cV m' ah)(af:c7 .normal ⟨n,ds,news++l.drop k⟩ m J):ae K B c ⟨n,ds,l⟩ m J c7:=ae.cut ad af
theorem ae.akK{α:Type}{c:Code}{base:List (Nat×Value)}(sK:α->List (Nat×Value))(mem:α->a8)(et:α->an)(inv:α->Prop)(sI:α->Nat)(s:α)(ag:inv s)
 (bD:∀s,inv s->ae K B c ⟨n,ds,sK s++base⟩ (mem s) (et s) fun e E m J=>match e with
  |.normal=>∃dC l,inv dC/\sI dC<sI s/\E=⟨n,ds,l⟩/\o1 l (sK dC++base)/\(mem dC).Sublist m/\J=et dC
  |e=>c7 e E m J):ae K B (.loop c) ⟨n,ds,sK s++base⟩ (mem s) (et s) c7:=
 ae.loop (fun s=>sK s++base) mem et inv sI bD s ag
theorem ae.lE{α:Type}{c:Code}{base:List (Nat×Value)}(sK:α->List (Nat×Value))(inv:α->Prop)(sI:α->Nat)(s:α)(ag:inv s)
 (bD:∀s,inv s->ae K B c ⟨n,ds,sK s++base⟩ m J fun e E c1 bK=>match e with
  |.normal=>∃dC l,inv dC/\sI dC<sI s/\E=⟨n,ds,l⟩/\o1 l (sK dC++base)/\m.Sublist c1/\bK=J
  |e=>c7 e E c1 bK):ae K B (.loop c) ⟨n,ds,sK s++base⟩ m J c7:=
 ae.loop (fun s=>sK s++base) (fun _=>m) (fun _=>J) inv sI bD s ag
theorem ae.Qw{c:Code}{E:cC}(h:ae K B c E m J fun e E m J=>match e with
 |.normal=>ae K B (.loop c) E m J c7
 |e=>c7 e E m J):ae K B (.loop c) E m J c7:=by
 intro S H ax aH;obtain⟨e,bl,H1,hV,c1,bK,ad,af,aV,bq⟩:=h S H ax aH;cases e with
 |normal=>
  have bq:ae K B (.loop c) hV c1 bK c7:=bq;obtain⟨b3,aP,H',cV,m',ah,a7,a0,bJ,cO⟩:=bq bl H1 af aV;exact⟨b3,aP,H',cV,m',ah,dX.XB ad a7,a0,bJ,cO⟩
 |exit i=>exact⟨_,bl,H1,hV,c1,bK,dX.vz ad (fun q=>by cases q),af,aV,bq⟩
 |goto i=>exact⟨_,bl,H1,hV,c1,bK,dX.vz ad (fun q=>by cases q),af,aV,bq⟩
 |ret=>exact⟨_,bl,H1,hV,c1,bK,dX.vz ad (fun q=>by cases q),af,aV,bq⟩
 |panic c=>exact⟨_,bl,H1,hV,c1,bK,dX.vz ad (fun q=>by cases q),af,aV,bq⟩
 |outgrown=>exact⟨_,bl,H1,hV,c1,bK,dX.vz ad (fun q=>by cases q),af,aV,bq⟩
theorem dh.app{bZ m m':a8}{a:Nat}{b b':ec}(h:dh m a b b' m'):dh (bZ++m) a b b' (bZ++m'):=by
 induction bZ with
 |nil=>exact h
 |cons x bZ aZ=>exact .tail x aZ
theorem W.et{ops rest:List Oper}{bF:Option (List PanicEntry)->cC->a8->an->Prop}{E:cC}{a:Nat}{b:ec}{x:List Value×TypeId}(ab:b.rowOf=some x)(h:J.le (J.add a x)->(J.add a x) a=some x->W K B ops rest E m (J.add a x) bF):W K B ops rest E ((a,b)::m) J bF:=by
 intro S H ax aH;obtain⟨a7,a0⟩:=aH.h9 ab;exact h a0 (an.g7 _ _ _) S H ax a7
theorem apE{c:Call}{s:List UInt8}{t:TypeId}(aj:o.op=.call c)(aJ:c.callee=.builtin .len)(aI:ix l c.args.toList=some [.string ⟨⟨s⟩⟩])(aS:c.argTypes.toList=[t])(ag:vv K.P t=true):c5 K B o n ds l m J (.int .i64 s.length):=apG aj aJ aI aS ag
theorem aam{t:TypeId}{x bh:Operand}{s:List UInt8}{k:IntKind}{i:Int}{b:UInt8}(aj:o.op=.index t x bh)(ab:bT l x=some (.string ⟨⟨s⟩⟩))(ar:bT l bh=some (.int k i))(aS:vv K.P t=true)(aO:0<=i)(ak:s[i.toNat]?=some b):c5 K B o n ds l m J (.int .u8 b.toNat):=apD aj ab ar aS aO ak
end
section
variable {K:ef}{B:dy}{n:Nat}{ds:eK}{l:List (Nat×Value)}{m:a8}{J:an}{c7:Exit->cC->a8->an->Prop}
end
structure aa8 (H H':aw):Prop where
 wf:jA H'
 bU:H'.bU=H.bU
 aG:H.aG<=H'.aG
 cF:H.cF<=H'.cF
 gE:∀a,a<H.aG->H'.mem.get a=H.mem.get a
 nC:∀f,f<H.cF->H'.bP.get f=H.bP.get f
open Classical in
def adn (K:ef)(f:FuncId)(b2:List Value)(v:Value)(H:aw):aw:=if h:∃H',kS K.Q f b2 H (.returned v) H'/\aa8 H H' then Classical.choose h else H
abbrev uK:=List (FuncId×List Value×Value)
def Zb:uK->FuncId->Option (List Value×Value)
 |[],_=>none
 |(g,b2,v)::R,f=>bif Nat.beq f g then some (b2,v) else Zb R f
open Classical in
def Bv (K:ef)(R:uK):eZ:=fun f args H=>match Zb R f with
 |some (b2,v)=>if args=b2 then some (.returned v,adn K f args v H) else none
 |none=>none
def eQ(K:ef)(B:dy)(R:uK)(ops:List Oper)(a':List jP)(E:cC)(m:a8)(J:an)(bF:cC->a8->an->Prop):Prop:=
 ∀S H,Sat E S->Inv K.g0 B J m H->∃aP H' cV m' ah,dU K.P (iO K.Q (Bv K R)) (hO K.Q il (Bv K R)).aQ ops a' S H=some (.ok aP H')/\Sat cV aP/\Inv K.g0 B ah m' H'/\bF cV m' ah
section
variable {K:ef}{B:dy}{R:uK}{ops:List Oper}{a':List jP}{E:cC}{m m':a8}{J:an}{o:Oper}{bF:cC->a8->an->Prop}{c7:Exit->cC->a8->an->Prop}
variable {n:Nat}{ds:eK}{l:List (Nat×Value)}{d i g:Nat}{want b:Bool}
theorem ae.ae1(R:uK){id:Nat}{a:Array Oper}(aD:KI a.toList=none)(cc:Fp a.toList=true)(ap:Lq a.toList=a')(h:eQ K B R a.toList a' E m J fun E m J=>c7 .normal E m J):ae K B (.region id a true) E m J c7:=by
 intro S H ax aH;obtain⟨aP,H',cV,m',ah,ad,af,aV,bq⟩:=h S H ax aH;refine⟨.normal,aP,H',cV,m',ah,dX.y5 K.cX.sJ il (Bv K R) ?_,af,aV,bq⟩;show uf (yz K.P (hO K.Q il (Bv K R)).call (hO K.Q il (Bv K R)).aQ a.toList S H)=_;rw[L4];unfold yz;rw[aD];show uf (Ab K.P (iO K.Q (Bv K R)) (hO K.Q il (Bv K R)).aQ a.toList S H)=_;unfold Ab;rw[cc,cv,ap,ad];rfl
theorem eQ.nil(h:bF E m J):eQ K B R ops [] E m J bF:=fun S H ax aH=>⟨S,H,E,m,J,rfl,ax,aH,h⟩
theorem eQ.split(ak:look l d=some (.bool b))(ad:b=true->eQ K B R ops a' ⟨n,ds,(d,.bool true)::l⟩ m J bF)(aO:b=false->eQ K B R ops a' ⟨n,ds,(d,.bool false)::l⟩ m J bF):eQ K B R ops a' ⟨n,ds,l⟩ m J bF:=by
 intro S H ax aH;have key:∀c:Bool,b=c->Sat ⟨n,ds,(d,.bool c)::l⟩ S:=fun c e=>by
  subst e;refine⟨ax.n,ax.ds,ax.cb,ax.bE,ax.cP,ax.has,fun t v q=>?_⟩;have aU:(bif Nat.beq t d then some (Value.bool b) else look l t)=some v:=q;cases bS:Nat.beq t d with
  |true=>rw[bS,cv] at aU;obtain rfl:=eC bS;rw[<-aU];exact ax.get _ _ ak
  |false=>rw[bS,dB] at aU;exact ax.get t v aU
 cases b with
 |true=>exact ad rfl S H (key true rfl) aH
 |false=>exact aO rfl S H (key false rfl) aH
theorem eQ.aaA{v:Value}(ar:nth ops i=some o)(e4:∀S,Sat ⟨n,ds,l⟩ S->gp ops S.T o=some true)(aq:o.dst=some d)(aE:Nat.blt d n=true)(az:c5 K B o n ds l m J v)(h:eQ K B R ops a' ⟨n,ds,(d,v)::l⟩ m J bF):eQ K B R ops (.val i::a') ⟨n,ds,l⟩ m J bF:=by
 intro S H ax aH;obtain⟨bl,s1,s2⟩:=ax.put (dst:=some d) aE v;obtain⟨aP,H',cV,m',ah,ad,af,aV,bq⟩:=h bl H s2 aH;refine⟨aP,H',cV,m',ah,?_,af,aV,bq⟩;show jN ops i (mN K.P _ _ ops S H (dU K.P _ _ ops a'))=_;unfold jN;rw[ar];show mN K.P _ _ ops S H (dU K.P _ _ ops a') o=_;unfold mN;rw[e4 S ax];show D' S H o.dst (dU K.P _ _ ops a') (cL K.P _ _ S H o)=_;rw[az _ _ S H ax aH,aq];show(bif Nat.beq H.aG H.aG then pR (dU K.P _ _ ops a') H (S.put (some d) v) else none)=_;rw[hY,cv,s1];exact ad
theorem eQ.LR(ar:nth ops i=some o)(e4:∀S,Sat ⟨n,ds,l⟩ S->gp ops S.T o=some false)(aq:o.dst=some d)(aE:Nat.blt d n=true)(h:eQ K B R ops a' ⟨n,ds,(d,undef)::l⟩ m J bF):eQ K B R ops (.val i::a') ⟨n,ds,l⟩ m J bF:=by
 intro S H ax aH;obtain⟨bl,s1,s2⟩:=ax.put (dst:=some d) aE undef;obtain⟨aP,H',cV,m',ah,ad,af,aV,bq⟩:=h bl H s2 aH;refine⟨aP,H',cV,m',ah,?_,af,aV,bq⟩;show jN ops i (mN K.P _ _ ops S H (dU K.P _ _ ops a'))=_;unfold jN;rw[ar];show mN K.P _ _ ops S H (dU K.P _ _ ops a') o=_;unfold mN;rw[e4 S ax];show pR (dU K.P _ _ ops a') H (S.put o.dst undef)=_;rw[aq,s1];exact ad
theorem agn(aF:o.guard=none):∀S,Sat ⟨n,ds,l⟩ S->gp ops S.T o=some true:=fun S ax=>by unfold gp;rw[aF]
theorem agp(aF:lr ops o=some (g,want))(ak:look l g=some (.bool b))(hw:(b==want)=true):∀S,Sat ⟨n,ds,l⟩ S->gp ops S.T o=some true:=fun S ax=>by rw[CH aF (ax.get g _ ak),hw]
theorem NZ(aF:lr ops o=some (g,want))(ak:look l g=some (.bool b))(hw:(b==want)=false):∀S,Sat ⟨n,ds,l⟩ S->gp ops S.T o=some false:=fun S ax=>by rw[CH aF (ax.get g _ ak),hw]
theorem ago(aF:lr ops o=some (g,want))(ak:look l g=some undef):∀S,Sat ⟨n,ds,l⟩ S->gp ops S.T o=some false:=fun S ax=>Vb aF (ax.get g _ ak)
theorem eQ.val{v:Value}(ar:nth ops i=some o)(aF:o.guard=none)(aq:o.dst=some d)(aE:Nat.blt d n=true)(az:c5 K B o n ds l m J v)(h:eQ K B R ops a' ⟨n,ds,(d,v)::l⟩ m J bF):eQ K B R ops (.val i::a') ⟨n,ds,l⟩ m J bF:=eQ.aaA ar (agn aF) aq aE az h
theorem eQ.apW{v:Value}(ar:nth ops i=some o)(aF:lr ops o=some (g,want))(ak:look l g=some (.bool b))(hw:(b==want)=true)(aq:o.dst=some d)(aE:Nat.blt d n=true)(az:c5 K B o n ds l m J v)(h:eQ K B R ops a' ⟨n,ds,(d,v)::l⟩ m J bF):eQ K B R ops (.val i::a') ⟨n,ds,l⟩ m J bF:=eQ.aaA ar (agp aF ak hw) aq aE az h
theorem eQ.rN(ar:nth ops i=some o)(aF:lr ops o=some (g,want))(ak:look l g=some (.bool b))(hw:(b==want)=false)(aq:o.dst=some d)(aE:Nat.blt d n=true)(h:eQ K B R ops a' ⟨n,ds,(d,undef)::l⟩ m J bF):eQ K B R ops (.val i::a') ⟨n,ds,l⟩ m J bF:=eQ.LR ar (NZ aF ak hw) aq aE h
theorem eQ.nK(ar:nth ops i=some o)(aF:lr ops o=some (g,want))(ak:look l g=some undef)(aq:o.dst=some d)(aE:Nat.blt d n=true)(h:eQ K B R ops a' ⟨n,ds,(d,undef)::l⟩ m J bF):eQ K B R ops (.val i::a') ⟨n,ds,l⟩ m J bF:=eQ.LR ar (ago aF ak) aq aE h
theorem um{op:BinOp}{t dH:TypeId}{x y:Operand}{a c:Bool}{v:Value}(aj:o.op=.binOp op t x y dH)(ab:bT l x=some (.bool a))(aB:bT l y=some (.bool c))(eA:op=.eql/\v=.bool (decide (a=c))\/op=.neq/\v=.bool (decide (¬a=c)))(aS:K.P.underlying t=some .bool):c5 K B o n ds l m J v:=by
 intro call aQ S H ax aH;unfold cL e3;simp only[aj];show l6 K.P _ op t (ba S.T H x) (ba S.T H y)=_;rw[dg ax H ab,dg ax H aB];show orElse (fk K.P S.T H o) _=_;have Aw:fc K.P (Op.equal t (.bool a) (.bool c))=some (decide (a=c)):=by
  show fc K.P (Op.equalIn (9999+1) t (.bool a) (.bool c))=_;unfold Op.equalIn;rw[gB (Jz aS)];show some (a==c)=_;cases a<;>cases c<;>rfl
 have:fk K.P S.T H o=some (.val v H):=by
  rcases eA with⟨rfl,rfl⟩|⟨rfl,rfl⟩
  ·refine pM ax (by rw[aj];rfl) ab aB rfl rfl ?_ rfl;unfold execOp;simp only[aj];rw[hS ax H ab,hS ax H aB];have ak:binOp .eql t (.bool a) (.bool c)=(do pure (.bool (<-Op.equal t (.bool a) (.bool c)))):=by simp[binOp]
   have aF:fc K.P (eqGuard .eql t x y (.bool a) (.bool c))=some ():=rfl;rw[gB (a:=.bool (decide (a=c)))]
   ·rfl
   rw[gB aF,ak,gB Aw];rfl
  ·refine pM ax (by rw[aj];rfl) ab aB rfl rfl ?_ rfl;unfold execOp;simp only[aj];rw[hS ax H ab,hS ax H aB];have ak:binOp .neq t (.bool a) (.bool c)=(do pure (.bool (!(<-Op.equal t (.bool a) (.bool c))))):=by simp[binOp]
   have aF:fc K.P (eqGuard .neq t x y (.bool a) (.bool c))=some ():=rfl;rw[gB (a:=.bool (decide (¬a=c)))]
   ·rfl
   rw[gB aF,ak,gB Aw];show some (Value.bool (!decide (a=c)))=_;rw[show(!decide (a=c))=decide (¬a=c) by simp]
 rw[this];rfl
theorem aaD(b:Bool)(n:Nat):eD (n+1) (.bool b) (.bool b)=true:=by cases b<;>rfl
theorem ae.aea{c:Code}(k:Nat)(news:List (Nat×Value))(ad:ae K B c ⟨n,ds,l⟩ m J fun e cV m' ah=>match e with
 |.normal=>(∃l',cV=⟨n,ds,l'⟩/\o1 l' (news++l.drop k))/\m.Sublist m'/\J.le ah
 |e=>c7 e cV m' ah)(af:∀ah,J.le ah->c7 .normal ⟨n,ds,news++l.drop k⟩ m ah):ae K B c ⟨n,ds,l⟩ m J c7:=by
 intro S H ax aH;obtain⟨e,aP,H',cV,c1,ah,a7,a0,bJ,cO⟩:=ad S H ax aH;cases e with
 |normal=>
  obtain⟨⟨l',rfl,gj⟩,jJ,oS⟩:=cO;exact⟨_,aP,H',_,m,_,a7,a0.sub gj,bJ.sub jJ,af _ oS⟩
 |exit i=>exact⟨_,aP,H',_,_,_,a7,a0,bJ,cO⟩
 |goto i=>exact⟨_,aP,H',_,_,_,a7,a0,bJ,cO⟩
 |ret=>exact⟨_,aP,H',_,_,_,a7,a0,bJ,cO⟩
 |panic c=>exact⟨_,aP,H',_,_,_,a7,a0,bJ,cO⟩
 |outgrown=>exact⟨_,aP,H',_,_,_,a7,a0,bJ,cO⟩
end
section
variable {K:ef}{B:dy}{ops:List Oper}{a':List jP}{E:cC}{m m':a8}{J:an}{o:Oper}{bF:cC->a8->an->Prop}{c7:Exit->cC->a8->an->Prop}
variable {n:Nat}{ds:eK}{l:List (Nat×Value)}{d i:Nat}
end
section
variable {K:ef}{B:dy}{ops:List Oper}{a':List jP}{F:List (FuncId×List Value)}{m m':a8}{J:an}{o:Oper}{bF:cC->a8->an->Prop}
variable {n:Nat}{ds:eK}{l:List (Nat×Value)}{d i:Nat}
theorem amA{S:a5}(ax:Sat ⟨n,ds,l⟩ S):∀{xs:List (Nat×Operand)} {vs:List (Nat×Value)},tq l xs=some vs->sN S.T xs=some vs:=by
 intro xs;induction xs with
 |nil=>intro vs h;exact h
 |cons x r aZ=>
  obtain⟨i,x⟩:=x;intro vs h;simp only[tq] at h;simp only[sN];cases ab:bT l x with
  |none=>rw[ab] at h;cases h
  |some v=>
   rw[ab] at h;simp only at h;rw[Rh ax ab];simp only;cases av:tq l r with
   |none=>rw[av] at h;cases h
   |some ws=>rw[av] at h;simp only at h;rw[aZ av];exact h
theorem bp.buildSlice{t e:TypeId}{k sz:Nat}{zs cells:List Value}{ps:Array (Nat×Operand)}{vs:List (Nat×Value)}(ar:nth ops i=some o)(aF:o.guard=none)(aj:o.op=.buildSlice t k ps)(aq:o.dst=some d)(aE:Nat.blt d n=true)(ap:tq l ps.toList=some vs)(aS:kQ K.P t=some (e,sz,zs))(hk:(Nat.ble k 100000&&Nat.ble (k*sz) 100000)=true)(aM:nr (fun i=>some (i*sz,sz)) (fM zs k) vs=some cells)(ad:cells.all ff=true)
 (h:∀a,bp K B ops a' F ⟨n,ds,(d,.slice (some ⟨a,0,none⟩) k k)::l⟩ ((a,.row cells e)::m) J bF):bp K B ops (.ka i::a') F ⟨n,ds,l⟩ m J bF:=by
 obtain⟨hu,ea,jm,z,h3,aL,bQ,rfl,bL,cZ,dE⟩:=sV aS;refine bp.ka (b:=.row cells e false 0 0 false) (p:=.row cells e) (eJ:=.BB k k) ar aF aq aE (fun S ax=>?_) (fun H a q=>q) (fun c e r z q=>by cases q) h;rw[aj];simp only[nm];rw[amA ax ap];simp only[EP,hu,ea,aL];rw[hk,dE,show Nat.beq z.cells.toList.length sz=true by rw[bL];exact hY _];simp only[x5,cv,aM,ad]
end
open Classical
def rowOf (w:World)(g:Nat):Option (List Value×TypeId):=match w.heap[g]? with
 |some (.cells c e _)=>some (c.toList,e)
 |_=>none
theorem Zh{w:World}{g:Nat}{cs:List Value}{e:TypeId}(h:rowOf w g=some (cs,e)):∃c f,w.heap[g]?=some (.cells c e f)/\c.toList=cs:=by
 unfold rowOf at h;split at h
 ·rename_i c b3 f aJ;injection h with h;injection h with ad af
  subst ad;subst af;exact⟨c,f,aJ,rfl⟩
 ·cases h
theorem Ry{w:World}{g:Nat}{c:Array Value}{e:TypeId}{f:Nat×Nat}(h:w.heap[g]?=some (.cells c e f)):rowOf w g=some (c.toList,e):=by
 unfold rowOf;rw[h]
def ry (P:Program)(w:World):b5:=fun g=>match rowOf w g with
 |some (cs,e)=>some ⟨g,cs.length,P.cellsOf e⟩
 |none=>none
theorem G8{P:Program}{w:World}{g:Nat}{L:Cre.Loc}(h:ry P w g=some L):∃cs e,rowOf w g=some (cs,e)/\L=⟨g,cs.length,P.cellsOf e⟩:=by
 unfold ry at h;cases av:rowOf w g with
 |none=>rw[av] at h;cases h
 |some x=>obtain⟨cs,e⟩:=x;rw[av] at h;injection h with h;exact⟨cs,e,rfl,h.symm⟩
theorem X1{P:Program}{w:World}{g:Nat}(h:(rowOf w g).isSome):∃L,ry P w g=some L/\L.r=g:=by
 obtain⟨⟨cs,e⟩,ab⟩:=Option.isSome_iff_exists.1 h;unfold ry;rw[ab];exact⟨_,rfl,rfl⟩
theorem TA{μ:b5}:∀(n:Nat) (v:Value),SizeOf.sizeOf v<=n->∃v0,bu μ v0 v:=by
 intro n;induction n with
 |zero=>intro v h;cases v<;>simp at h
 |succ n aZ=>
  intro v h;have arr:∀cs:Array Value,SizeOf.sizeOf cs<=n->∃b2:Array Value,b2.size=cs.size/\∀(i:Nat) v v',b2[i]?=some v->cs[i]?=some v'->bu μ v v':=fun cs ag=>by
   have key:∀i:Fin cs.size,∃v0,bu μ v0 cs[i]:=fun i=>aZ _ (by have:=Array.sizeOf_getElem cs i.1 i.2;have e:cs[i]=cs[i.1]:=rfl;rw[e];omega);refine⟨Array.ofFn fun i=>Classical.choose (key i),by simp,fun i v v' ad af=>?_⟩;rw[Array.getElem?_ofFn] at ad;split at ad
   ·rename_i ar;injection ad with ad;subst ad
    rw[zA ar] at af;injection af with af;subst af
    exact SF (key ⟨i,ar⟩)
   ·cases ad
  by_cases aj:ff v=true
  ·exact⟨_,.x0 v aj⟩
  ·cases v with
   |agg cs=>
    obtain⟨b2,ad,af⟩:=arr cs (by simp at h;omega);exact⟨_,.agg b2 cs ad af⟩
   |tuple cs=>
    obtain⟨b2,ad,af⟩:=arr cs (by simp at h;omega);exact⟨_,.tuple b2 cs ad af⟩
   |_=>exact absurd rfl aj
def iM (P:Program)(w:World)(v:Value):Value:=match v with
 |.pointer (some ⟨r,off,none⟩)=>if(rowOf w r).isSome then v else .chan none
 |.slice (some a) len cap=>if a.spot=none/\(rowOf w a.block).isSome/\cap<cQ then v else if len=0/\cap=0 then .slice (some ⟨0,0,some 0⟩) 0 0 else .chan none
 |v=>if isAtom v=true then v else Classical.choose (TA (μ:=ry P w) (SizeOf.sizeOf v) v (bX _))
theorem EM{P:Program}{w:World}{v:Value}(h:isAtom v=true):iM P w v=v:=by
 unfold iM;split
 ·simp[isAtom] at h
 ·simp[isAtom] at h
 ·rw[bj h]
theorem I8{P:Program}{w:World}(v:Value):bu (ry P w) (iM P w v) v:=by
 unfold iM;split
 ·rename_i r off;split
  ·rename_i q;obtain⟨L,ad,af⟩:=X1 (P:=P) q;have:=bu.ptr r off L ad;rwa [af] at this
  ·exact .x0 _ rfl
 ·rename_i a len cap;split
  ·rename_i q;obtain⟨r,off,sp⟩:=a;obtain⟨iq,aX,aU⟩:=q;have iq:sp=none:=iq;subst iq;obtain⟨L,ad,af⟩:=X1 (P:=P) aX;have af:L.r=r:=af;have:=bu.nJ r off len cap L ad aU;rwa [af] at this
  ·split
   ·rename_i q;obtain⟨rfl,rfl⟩:=q;exact .xQ a
   ·exact .x0 _ rfl
 ·split
  ·exact .atom _ (by assumption)
  ·exact SF (TA (μ:=ry P w) (SizeOf.sizeOf v) v (bX _))
def ug (P:Program)(w:World)(g:Nat):Option (List Value×TypeId):=match rowOf w g with
 |some (cs,e)=>some (cs.map (iM P w),e)
 |none=>none
theorem Ze{P:Program}{w:World}{g:Nat}{cs:List Value}{e:TypeId}(h:ug P w g=some (cs,e)):∃c,rowOf w g=some (c,e)/\cs=c.map (iM P w):=by
 unfold ug at h;split at h
 ·rename_i c b3 q;injection h with h;injection h with ad af
  subst ad;subst af;exact⟨c,q,rfl⟩
 ·cases h
theorem LA{P:Program}{w:World}{g:Nat}{cs:List Value}{e:TypeId}(h:rowOf w g=some (cs,e)):ug P w g=some (cs.map (iM P w),e):=by
 unfold ug;rw[h]
def Cj (P:Program)(w:World)(g:Nat):fs:=match ug P w g with
 |some (cs,e)=>.row cs e false 0 cs.length true
 |none=>.dead
def Ba (P:Program)(w:World):a4 fs:=match xT ((List.range w.heap.size).map (Cj P w)) 0 .leaf with|some t=>t|none=>.leaf
theorem KP{P:Program}{w:World}(g:Nat):(Ba P w).get g=if g<w.heap.size then some (Cj P w g) else none:=by
 obtain⟨T,cB⟩:=aad ((List.range w.heap.size).map (Cj P w)) 0 .leaf (fun k hk=>absurd hk (by omega));unfold Ba;rw[cB];simp only
 rw[R0 cB];simp only[ep,true_and,g6,List.length_range,j7,Nat.sub_zero];split
 ·rename_i h;rw[ko,SZ h];rfl
 ·rfl
def w6 (P:Program)(w:World):aw:=⟨Ba P w,w.heap.size,.leaf,0,w.heap.size⟩
theorem Zf{P:Program}{w:World}{g:Nat}{x:List Value×TypeId}(h:ug P w g=some x):g<w.heap.size:=by
 obtain⟨cs,e⟩:=x;obtain⟨c,ad,_⟩:=Ze h;obtain⟨c',f,af,_⟩:=Zh ad;exact(L3.1 af).1
theorem Wl{P:Program}{w:World}{g:Nat}{cs:List Value}{e:TypeId}(h:ug P w g=some (cs,e)):(w6 P w).mem.get g=some (.row cs e false 0 cs.length true):=by
 show(Ba P w).get g=_;rw[KP,bj (Zf h)];unfold Cj;rw[h]
theorem Wk{P:Program}{w:World}{g:Nat}{b:fs}(h:(w6 P w).mem.get g=some b):g<w.heap.size/\(b=.dead\/∃cs e,ug P w g=some (cs,e)/\b=.row cs e false 0 cs.length true):=by
 have h:(Ba P w).get g=some b:=h;rw[KP] at h;split at h
 ·rename_i aF;refine⟨aF,?_⟩;injection h with h
  unfold Cj at h;cases av:ug P w g with
  |none=>rw[av] at h;exact .inl h.symm
  |some x=>obtain⟨cs,e⟩:=x;rw[av] at h;exact .inr ⟨cs,e,rfl,h.symm⟩
 ·cases h
theorem af2(P:Program)(w:World):cd P (fun k=>k<w.heap.size) w (ry P w) (w6 P w) w:=by
 have mlt:∀x L,ry P w x=some L->x<w.heap.size:=fun x L ab=>by
  obtain⟨cs,e,ad,_⟩:=G8 ab;exact Zf (LA (P:=P) ad)
 refine⟨Kept.refl _ _,fun _ hk=>hk,?_,?_,mlt,?_,?_,?_,bX _,?_,?_,?_⟩
 ·intro g L q;obtain⟨c,e,af,rfl⟩:=G8 q;obtain⟨c',f,aV,rfl⟩:=Zh af;refine⟨_,_,Wl (LA af),aV,rfl,by simp,rfl,by simp,fun _=>by simp,fun i v v' x y=>?_,⟨fun off aj _ _=>by simpa using aj,fun q=>by cases q⟩⟩;rw[ko] at x;have mO:c'.toList[i]?=some v':=by simpa using y
  rw[mO] at x;injection x with x;subst x
  exact I8 v'
 ·intro x y hQ hX eM ab aB av;obtain⟨_,_,_,rfl⟩:=G8 ab;obtain⟨_,_,_,rfl⟩:=G8 aB;exact absurd av eM
 ·intro x L ab _;obtain⟨_,_,_,rfl⟩:=G8 ab;rfl
 ·intro x L ab aF _;have:=mlt x L ab;have aF:w.heap.size<=x:=aF;omega
 ·intro g c e o f z s _ hm;obtain⟨aF,q⟩:=Wk hm;rcases q with q|⟨cs,b3,aX,aU⟩
  ·cases q
  ·obtain⟨z0,ad,_⟩:=Ze aX;refine⟨⟨g,z0.length,P.cellsOf b3⟩,?_⟩;unfold ry;rw[ad]
 ·intro x c e f z s hm;obtain⟨_,q⟩:=Wk hm;rcases q with q|⟨_,_,_,q⟩<;>cases q
 ·intro f l x aD;cases aD
 ·intro f l aD;cases aD
def pE (P:Program)(w:World):an:=ug P w
theorem ajT(P:Program)(w:World):Inv w.heap.size (ky [] (w6 P w) (pE P w)) (pE P w) [] (w6 P w):=by
 refine⟨⟨fun a aI=>?_,fun a aI=>?_,fun f aM=>absurd aM (EE _),fun f _=>rfl,bX _⟩,rfl,bX _,bX _,fun _ _ _=>rfl,fun _ _=>rfl,fun a c e h=>?_,an.le.refl _,fun a x ad af=>?_,fun a b h=>(by cases h),(fun a b h=>by cases h),List.nodup_nil⟩
 ·refine⟨Cj P w a,?_⟩;show(Ba P w).get a=_;rw[KP,bj (show a<w.heap.size from aI)]
 ·show(Ba P w).get a=none;rw[KP,bd (by have aI:w.heap.size<=a:=aI;omega)]
 ·exact⟨_,_,_,_,Wl h⟩
 ·rw[show pE P w a=none from ad] at af;cases af
section
variable {K:ef}
theorem amk{w:World}{f:FuncId}{fn:Func}{c:Code}{args:List Value}{cq:Array Value}{b:Bool}(gq:K.Q.ok (fun k=>k<w.heap.size) w)(aF:K.g0=w.heap.size)(aM:K.P.funcs[f]?=some fn)(ak:fn.body=some c)(aD:ca (ry K.P w) args cq.toList)(b4:Fn K f args [] (pE K.P w) (fun v m J=>v=.bool b)):
 Calls K.P f cq w fun e bn=>e=.returned (.bool b)/\Below w.heap.size w bn:=by
 have aH:Inv K.g0 (ky [] (w6 K.P w) (pE K.P w)) (pE K.P w) [] (w6 K.P w):=by rw[aF];exact ajT K.P w
 obtain⟨v,H',ah,m',ad,af,rfl⟩:=b4 (w6 K.P w) aH;have ag:=ad _ w gq f args (w6 K.P w) (.returned (.bool b)) H' (by unfold nU;rw[bj ⟨rfl,rfl,rfl⟩]) (ry K.P w) w cq.toList (af2 K.P w) aD;rcases ag with⟨v,v',bn,bw,_,q,_⟩|⟨_,q⟩
 ·rw[Ft aM ak (K.cX.num f fn aM (by rw[ak];rfl))] at q;cases q
 ·refine Calls.mono q fun b3 bn bS=>?_;obtain⟨bw,ck,ch,c6⟩:=bS;cases b3 with
  |returned v'=>
   have az:bu bw (.bool b) v':=c6;rw[az.EV];exact⟨rfl,ck.below.below⟩
  |panicked c=>exact c6.elim
  |outgrown=>exact c6.elim
theorem Fn.closed{H0:aw}{f:FuncId}{fn:Func}{c:Code}{v:Value}{J:an}(ap:plain v=true)(aM:K.P.funcs[f]?=some fn)(ak:fn.body=some c)(cc:∀B w,K.Q.ok B w->Laid K.P w H0/\IC H0 B)
 (aJ:∀w,Laid K.P w H0->Calls K.P f #[] w fun e bn=>e=.returned v/\Below w.heap.size w bn):Fn K f [] [] J (fun u m' ah=>u=v/\m'=[]/\ah=J):=by
 intro H aH;refine⟨v,H,J,[],fun B w0 gq=>?_,aH,rfl,rfl,rfl⟩;obtain⟨AD,e4⟩:=cc B w0 gq;intro f' cq H' e p2 he μ w arm h aD;unfold nU at he;split at he
 ·rename_i q;obtain⟨rfl,rfl,rfl⟩:=q;simp only[cD,dK] at he;obtain⟨rfl,rfl⟩:=he;obtain rfl:=aD.k5;refine .inr ⟨Ft aM ak (K.cX.num f' fn aM (by rw[ak];rfl)) _ w,?_⟩;refine Calls.mono (aJ w (AD.gE e4 h.below)) fun b3 bn ⟨qm,q'⟩=>?_;subst qm;exact⟨μ,h.grow q',Step.refl _ _,pN ap⟩
 ·cases he
def Sj(P:Program)(H0:aw):dD P where
 ok B w:=Laid P w H0/\IC H0 B
 up B w0 iu iS h e4 hk:=⟨h.1.gE h.2 hk,fun g b aF ak=>e4 g (h.2 g b aF ak)⟩
end
theorem aaF{b:Option Addr}(h:addrEq b b=true)(l c n:Nat):eD (n+1) (.slice b l c) (.slice b l c)=true:=by
 show(addrEq b b&&Nat.beq l l&&Nat.beq c c)=true;rw[hY,hY,h];rfl
theorem apY{n:Nat}:∀{l:List Value},(∀v∈l,eD n v v=true)->eD (n+1) (.agg l.toArray) (.agg l.toArray)=true:=by
 intro l h;show jB (eD n) l l=true;induction l with
 |nil=>rfl
 |cons a l aZ=>
  show(eD n a a&&jB (eD n) l l)=true;rw[h a (.head _),aZ (fun v az=>h v (.tail _ az))];rfl
theorem ap1{n:Nat}:∀v∈([]:List Value),eD n v v=true:=fun v az=>by cases az
theorem ap0{n:Nat}{a:Value}{l:List Value}(h:eD n a a=true)(aD:∀v∈l,eD n v v=true):∀v∈a::l,eD n v v=true:=fun v az=>by
 rcases gb.1 az with rfl|q
 ·exact h
 ·exact aD v q
section
variable {K:ef}{B:dy}{o:Oper}{n:Nat}{ds:eK}{l:List (Nat×Value)}{m m':a8}{J:an}{e8:cC->a8->an->Prop}{d:Nat}{c7:Exit->cC->a8->an->Prop}
theorem ae.ub{c:Code}{E:cC}(ap:m'.Perm m)(h:ae K B c E m' J c7):ae K B c E m J c7:=fun S H ax aH=>h S H ax (aH.perm ap.symm)
theorem mA.perm{g0 sz k:Nat}{v:Value}{cs:List Value}(ap:m.Perm m')(h:mA g0 B J m sz v k cs):mA g0 B J m' sz v k cs:=fun H aH=>h H (aH.perm ap.symm)
theorem Lm{α:Type}{x:α}{bZ r:List α}:(x::(bZ++r)).Perm (bZ++x::r):=List.perm_middle.symm
theorem YH{α:Type}{x y:α}{bZ r:List α}:(x::y::(bZ++r)).Perm (bZ++x::y::r):=(Lm.cons x).trans Lm
theorem amC{α:Type}{x y z:α}{bZ r:List α}:(x::y::z::(bZ++r)).Perm (bZ++x::y::z::r):=(YH.cons x).trans Lm
theorem mA.own{g0:Nat}{e:TypeId}{sz k c a:Nat}{cells:List Value}(hm:(a,ec.row cells e)∈m)(aD:cells.length=k*sz):mA g0 B J m sz (.slice (some ⟨a,0,none⟩) k c) k cells:=by
 intro H aH;refine⟨rfl,?_⟩;have g:=(aH.own _ _ hm).1;have g:H.mem.get a=some (.row cells e false 0 0 false):=g;unfold jV;cases k with
 |zero=>
  simp only
  rw[j8] at aD;rw[kU aD]
 |succ k=>
  simp only[g];rw[wy,hi,xS (by omega),dd (by omega)]
theorem aqt{c:Call}{t hM e:TypeId}{sz k j:Nat}{zs cells new:List Value}{v x:Value}{bZ dc:a8}{ht:TypeDesc}(aj:o.op=.call c)(aJ:c.callee=.builtin .append)(aq:o.dst=some d)(aE:Nat.blt d n=true)(aI:ix l c.args.toList=some [v,x])(nA:c.argTypes.toList=[t,hM])(aS:kQ K.P t=some (e,sz,zs))(kN:K.P.underlying hM=some ht)(st:∀i,ht≠.int i)
 (az:Acc e sz v k cells bZ)(hm:m.Perm (bZ++dc))(ab:mA K.g0 B J m sz x j new)(ei:new.length=j*sz)(eh:new.all ff=true)(aD:k+j<=1000000)
 (h:∀w jL,Acc e sz w (k+j) (cells++new) jL->e8 ⟨n,ds,(d,w)::l⟩ (jL++dc) J):jQ K B o ⟨n,ds,l⟩ m J e8:=fun S H ax aH=>
 aqs aj aJ aq aE aI nA aS kN st az rfl (ab.perm hm) ei eh aD h S H ax (aH.perm hm)
theorem Acc.pO{c:Code}{e:TypeId}{sz k:Nat}{v:Value}{cells:List Value}{bZ dc:a8}{E:cC}(h:Acc e sz v k cells bZ)(hm:m.Perm (bZ++dc))(hk:∀ah,J.le ah->fP ah e sz v k cells->ae K B c E dc ah c7):ae K B c E m J c7:=
 ae.ub hm.symm (h.et rfl hk)
end
def Fj (di off cap sz:Nat)(a b:Int):Value:=
 if cap=cQ then .slice (some ⟨di,off+a.toNat*sz,none⟩) (b -a).toNat cQ
 else if cap=a.toNat then .slice (some ⟨di,off,none⟩) (b -a).toNat (cap -a.toNat)
 else .slice (some ⟨di,off+a.toNat*sz,none⟩) (b -a).toNat (cap -a.toNat)
section
variable {K:ef}{B:dy}{o:Oper}{n:Nat}{ds:eK}{l:List (Nat×Value)}{m m':a8}{J:an}{e8:cC->a8->an->Prop}{d:Nat}
theorem aeb{e:TypeId}{di off k cap sz:Nat}{cs:List Value}{a b:Int}(az:fP J e sz (.slice (some ⟨di,off,none⟩) k cap) k cs)(hk:0<k)(aO:0<=a)(ad:a<=b)(af:b<=k):
 fP J e sz (Fj di off cap sz a b) (b -a).toNat ((cs.drop (a.toNat*sz)).take ((b -a).toNat*sz)):=by
 generalize lx:k=A1 at az;have qv:=az;cases az with
 |js a off cap h=>exact absurd hk (by omega)
 |@row di off k cap cells cs b3 dQ ee fB iD ue=>
  subst lx;have hlen:k*sz<=(cells.drop off).length:=by
   have:((cells.drop off).take (k*sz)).length=k*sz:=by rw[ee];exact fB
   rw[dY] at this;omega
  have hle:a.toNat*sz+(b -a).toNat*sz<=k*sz:=by
   rw[<-c3];exact e0 _ (by omega)
  have h4:(cells.drop (off+a.toNat*sz)).take ((b -a).toNat*sz)=(cs.drop (a.toNat*sz)).take ((b -a).toNat*sz):=by
   rw[<-ee,IF,rX,Et,gn (by omega)]
  have lY:((cs.drop (a.toNat*sz)).take ((b -a).toNat*sz)).length=(b -a).toNat*sz:=by
   rw[dY,lQ,fB];omega
  unfold Fj;split
  ·exact .row dQ h4 lY (fun q=>absurd rfl q) (fun _=>ue (by assumption))
  ·rename_i aJ;split
   ·have e1:(b -a).toNat=0:=by have:=(iD aJ).1;omega
    have:(cs.drop (a.toNat*sz)).take ((b -a).toNat*sz)=[]:=by rw[e1];simp
    rw[this,e1];exact .js _ _ _ (by have:=(iD aJ).2;omega)
   ·refine .row dQ h4 lY (fun _=>⟨by have:=(iD aJ).1;omega,by have:=(iD aJ).2;omega⟩) (fun q=>?_);have:=(iD aJ).2;omega
theorem apN{t e:TypeId}{x:Operand}{lo ar:Option Operand}{w:Value}{di off cap k sz:Nat}{zs cs:List Value}{a b:Int}(aj:o.op=.slice t x lo ar none)(ab:bT l x=some (.slice (some ⟨di,off,none⟩) k cap))(aS:kQ K.P t=some (e,sz,zs))(az:fP J e sz (.slice (some ⟨di,off,none⟩) k cap) k cs)(hk:0<k)(hz:ti l 0 lo=some a)(kM:ti l k ar=some b)(aO:0<=a)(ad:a<=b)(af:b<=k)(hw:Fj di off cap sz a b=w):c5 K B o n ds l m J w:=by
 obtain⟨hu,ea,jm,z,h3,aL,bQ,rfl,bL,cZ,dE⟩:=sV aS;intro call aQ S H ax aH;subst hw;generalize lx:k=A1 at az;cases az with
 |js a off cap h=>exact absurd hk (by omega)
 |@row di off k cap cells cs b3 dQ ee fB iD ue=>
  subst lx;obtain⟨ol,Hv,xA⟩:=uP (jr:=0) (top:=b.toNat) ax H hz aO (by omega) rfl;have ho:∀w,kt K.P H t (.slice (some ⟨di,off,none⟩) k cap) ol (match hH S.T H ar with|some x=>x|none=>none)=some w->cL K.P call aQ S H o=some (.val w H):=fun w hw=>by
   unfold cL e3;simp only[aj];show mn K.P _ t (ba S.T H x) (hH S.T H lo) (hH S.T H ar)=_;rw[dg ax H ab,Hv];rcases MU ax H kM with⟨_,_,q⟩|⟨_,_,_,_,q⟩
   ·rw[q] at hw ⊢;unfold mn;simp only;rw[show kt K.P H t (.slice (some ⟨di,off,none⟩) k cap) ol none=some w from hw];rfl
   ·rw[q] at hw ⊢;unfold mn;simp only;rw[show kt K.P H t (.slice (some ⟨di,off,none⟩) k cap) ol _=some w from hw];rfl
  have aC:(b -a).toNat=b.toNat -a.toNat:=by omega
  obtain⟨HA,of,amu,os,bS⟩:=aH.et _ _ _ dQ;refine ho _ ?_;unfold Fj;by_cases aJ:cap=cQ
  ·subst aJ;obtain⟨xy,pH,pI⟩:=uP (jr:=k) (top:=k) ax H kM (by omega) (by omega) rfl;rw[bj rfl,pH];unfold kt;simp only[hu,ea,hY,cv,bS,ue rfl,pI,xA,ov,dB];rw[aC];rfl
  ·obtain⟨xy,pH,pI⟩:=uP (jr:=k) (top:=cap) ax H kM (by omega) (by have:=(iD aJ).1;omega) rfl;have FZ:Nat.beq cap cQ=false:=by
    cases q:Nat.beq cap cQ
    ·rfl
    ·exact absurd (eC q) aJ
   rw[bd aJ];by_cases tE:cap=a.toNat
   ·rw[bj tE,pH];unfold kt;simp only[hu,ea,FZ,dB,pI,xA];rw[show Nat.beq cap a.toNat=true by rw[tE];exact hY _,cv,aC];rfl
   ·rw[bd tE,pH];unfold kt;simp only[hu,ea,FZ,dB,pI,xA];have:Nat.beq cap a.toNat=false:=by
     cases q:Nat.beq cap a.toNat
     ·rfl
     ·exact absurd (eC q) tE
    rw[this,dB,aC];rfl
theorem Acc.wF{e:TypeId}{sz k:Nat}{v:Value}{cells:List Value}{bZ:a8}(h:Acc e sz v k cells bZ):∃b c,v=.slice b k c/\addrEq b b=true:=by
 cases h with
 |nil=>exact⟨_,_,rfl,rfl⟩
 |js a=>exact⟨_,_,rfl,by simp[addrEq]⟩
 |opn h=>exact⟨_,_,rfl,by simp[addrEq]⟩
 |cap=>exact⟨_,_,rfl,by simp[addrEq]⟩
end
end
end Go.Opn
namespace Go.Opn
noncomputable section
open Go.Cre Go.RowKit Go.ChangeShapes
theorem TD{b off i:Nat}{sp:Option Nat}(h:sp=none):(⟨b,off,sp⟩:Addr).add i=⟨b,off+i,none⟩:=by
 subst h;unfold Addr.add;split
 ·rename_i q;subst q;rfl
 ·rfl
theorem M8{W:World}{base k:Nat}{a:Addr}{cs:List Value}(h:W.cells? base a k=some cs)(hk:0<k):∃c e f,W.heap[a.block]?=some (.cells c e f)/\a.spot=none/\cs.length=k/\∀j,j<k->c[a.off+j]?=cs[j]?:=by
 obtain⟨_,af,aV⟩:=World.cells?_some h;obtain⟨b,off,sp⟩:=a;have aO:=aV 0 hk;have lu:∃v,cs[0]?=some v:=⟨cs[0]'(by omega),eE _⟩;obtain⟨v0,Dd⟩:=lu;have jC:(⟨b,off,sp⟩:Addr).add 0=⟨b,off,sp⟩:=rfl;rw[jC,Dd] at aO;unfold World.cell? at aO;cases c9:W.heap[b]? with
 |none=>rw[show(⟨b,off,sp⟩:Addr).block=b from rfl,c9] at aO;cases aO
 |some o=>
  rw[show(⟨b,off,sp⟩:Addr).block=b from rfl,c9] at aO;cases o with
  |cells c e f=>
   simp only at aO;cases sp with
   |some s=>simp at aO
   |none=>
    refine⟨c,e,f,by first|rfl|exact c9,rfl,af,fun j bf=>?_⟩;have:=aV j bf;rw[TD rfl] at this;unfold World.cell? at this;rw[show(⟨b,off+j,none⟩:Addr).block=b from rfl,c9] at this;simpa using this
  |_=>cases aO
section
variable {H:Type}{enc:TypeId×Value->H}{P:Program}{W:World}{fuel:Nat}{t e:TypeId}{cs:List Value}{x:DataW H×List MemPlace}
abbrev rK(enc:TypeId×Value->H)(P:Program)(W:World):=DataW.trod enc P W 0 (fun _=>true) true
theorem an9{sz:Nat}(aS:P.underlying t=some (.slice e))(ea:P.cellsOf e=sz)(aO:0<sz)(h:rK enc P W fuel t cs=some x):
 ∃(b:Option Addr) (n c:Nat) (rows:List Value) (el:List (List Value)) (ds:List (DataW H×List MemPlace)) (m:Nat),cs.map (iM P W)=[.slice b n c]/\cs.length=1/\(∀b3,fP (pE P W) b3 sz (.slice b n c) n (rows.map (iM P W)))/\el.length=n/\ds.length=n/\
  (∀i cN,el[i]?=some cN->cN.length=sz/\(rows.drop (i*sz)).take sz=cN/\∃y,ds[i]?=some y/\rK enc P W m e cN=some y)/\
  (∀y∈ds,∀z∈y.1.weights P e,z∈x.1.weights P t)/\n<=maxLen:=by
 rcases DataW.trod_slice aS h with⟨rfl,rfl⟩|⟨a,len,cap,yv,rest,n,rfl,rfl,rfl,ad,af,aV,bq,fL,hv,nt⟩
 ·exact⟨none,0,0,[],[],[],0,by rw[uF,EM rfl];rfl,rfl,fun b3=>.nil,rfl,rfl,(fun i cN q=>by simp at q),(fun y aB=>by cases aB),ep _⟩
 ·have m5:cap<cQ:=p7 aV (by unfold maxLen cQ;decide);have hw:∀y∈yv,∀z∈y.1.weights P e,z∈(DataW.slice (yv.map (·.1)) (rest.map (·.1)):DataW H).weights P t:=fun y aB z aL=>by
   rw[DataW.weights,aS];refine abq _ (nN _ ?_);have:∀l:List (DataW H×List MemPlace),y∈l->z∈DataW.weightsAll P e (l.map (·.1)):=fun l=>by
    induction l with
    |nil=>intro q;cases q
    |cons d r aZ=>
     intro q;rw[uF,DataW.weightsAll];rcases gb.1 q with rfl|q
     ·exact nN _ aL
     ·exact eF _ (aZ q)
   exact this yv aB
  have ij:∀i,i<len->∃cN y,W.cells? 0 (a.add (i*sz)) sz=some cN/\yv[i]?=some y/\rK enc P W n e cN=some y:=fun i ar=>by
   have Ob:=fL i ar;rw[ea] at Ob;have lZ:i<yv.length:=by omega
   rw[eE lZ] at Ob;obtain⟨cN,aX,aU⟩:=abM.1 Ob;exact⟨cN,_,aX,eE lZ,aU⟩
  by_cases aD:len=0
  ·subst aD;have ahW:yv=[]:=zH.1 bq;subst ahW;by_cases av:a.spot=none/\(rowOf W a.block).isSome
   ·refine⟨some a,0,cap,[],[],[],n,?_,rfl,fun b3=>?_,rfl,rfl,(fun i cN q=>by simp at q),hw,ep _⟩
    ·show[iM P W _]=_;unfold iM;simp only;rw[bj ⟨av.1,av.2,m5⟩]
    ·obtain⟨b,off,sp⟩:=a;obtain⟨rfl,_⟩:=av;exact .js _ _ _ m5
   ·have lu:cap=0:=by
     apply jh;intro aJ
     obtain⟨dQ,ee⟩:=hv rfl;have bf:=ee 0 (by omega);rw[ea] at bf;have agJ:0<rest.length:=by omega
     rw[eE agJ] at bf;obtain⟨cN,aX,aU⟩:=abM.1 bf;have jC:a.add ((0+0)*sz)=a:=by simp[Addr.add]
     rw[jC] at aX;obtain⟨c,b3,f,ck,ch,_⟩:=M8 aX aO;exact av ⟨ch,by rw[Ry ck];rfl⟩
    subst lu;refine⟨some ⟨0,0,some 0⟩,0,0,[],[],[],n,?_,rfl,fun b3=>.yx,rfl,rfl,(fun i cN q=>by simp at q),hw,ep _⟩;show[iM P W _]=_;unfold iM;simp only;rw[bd (fun q=>av ⟨q.1,q.2.1⟩),bj (by simp)]
  ·obtain⟨kH,l9,aX,aU,b0⟩:=ij 0 (by omega);have jC:a.add (0*sz)=a:=by simp[Addr.add]
   rw[jC] at aX;obtain⟨c,b3,f,ck,ch,c6,gg⟩:=M8 aX aO;obtain⟨b,off,sp⟩:=a;have ch:sp=none:=ch;subst ch;have ck:W.heap[b]?=some (.cells c b3 f):=ck;have m9:=Ry ck;have VE:∀i,i<len->∃cN y,yv[i]?=some y/\rK enc P W n e cN=some y/\cN.length=sz/\∀j,j<sz->c.toList[off+(i*sz+j)]?=cN[j]?:=fun i ar=>by
    obtain⟨cN,y,a7,a0,bJ⟩:=ij i ar;rw[TD rfl] at a7;obtain⟨c',UC,f',c1,_,mH,mI⟩:=M8 a7 aO;have c1:W.heap[b]?=some (.cells c' UC f'):=c1;rw[ck] at c1;injection c1 with c1;injection c1 with c1 _ _
    subst c1;exact⟨cN,y,a0,bJ,mH,fun j bf=>by have:=mI j bf;rw[show off+(i*sz+j)=off+i*sz+j by omega];simpa using this⟩
   have hlen:off+len*sz<=c.toList.length:=by
    obtain⟨cN,y,_,_,bJ,cO⟩:=VE (len -1) (by omega);have:=cO (sz -1) (by omega);rw[eE (show sz -1<cN.length by omega)] at this;have Oc:off+((len -1)*sz+(sz -1))<c.toList.length:=by
     rcases iK (off+((len -1)*sz+(sz -1))) c.toList.length with q|q
     ·exact q
     ·rw[qT q] at this;cases this
    have:len*sz=(len -1)*sz+sz:=by
     rw[<-o9];congr 1;omega
    omega
   refine⟨some ⟨b,off,none⟩,len,cap,(c.toList.drop off).take (len*sz),(List.range len).map fun i=>(c.toList.drop (off+i*sz)).take sz,yv,n,?_,rfl,fun UC=>?_,by simp,bq,fun i cN ar=>?_,hw,cY af aV⟩
   ·show[iM P W _]=_;unfold iM;simp only;rw[bj (by simp only[true_and];exact⟨by rw[m9];rfl,m5⟩)]
   ·refine .row (LA m9) (by rw[<-S2,<-zI]) ?_ (fun _=>⟨af,m5⟩) (fun q=>by omega);rw[g6,dY,lQ];omega
   ·rw[ko] at ar;have AA:i<len:=by
     rcases iK i len with q|q
     ·exact q
     ·rw[qT (by simpa using q)] at ar;cases ar
    rw[SZ AA] at ar;simp only[IY,cD] at ar;obtain⟨Fg,y,a7,a0,bJ,cO⟩:=VE i AA;have hle:i*sz+sz<=len*sz:=by rw[<-o9];exact e0 _ AA
    have h4:(c.toList.drop (off+i*sz)).take sz=Fg:=by
     refine IG fun j=>?_;rw[ji];split
     ·rename_i bf;rw[p5,<-cO j bf];congr 1;omega
     ·rw[qT (by omega)]
    rw[h4] at ar;subst ar;refine⟨bJ,?_,y,a7,a0⟩;rw[<-h4,IF,Et,rX,gn (by omega)]
theorem ajR(aS:P.underlying t=some (.int .i64))(h:rK enc P W fuel t cs=some x):∃i:Int,cs=[.int .i64 i]/\cs.map (iM P W)=[.int .i64 i]:=by
 obtain⟨i,rfl,_⟩:=DataW.trod_int aS h;exact⟨i,rfl,by rw[uF,EM rfl];rfl⟩
def RR (P:Program)(t:TypeId):Option Nat:=match P.underlying t with|some (.struct g9)=>some g9.size|_=>none
theorem aoG{k:Nat}(hk:RR P t=some k)(h:rK enc P W fuel t cs=some x):∃n,cs.length=P.cellsOf t/\∀i dH off sz,i<k->FB P t i=some (dH,off)->P.cellsOf dH=sz->∃y,rK enc P W n dH ((cs.drop off).take sz)=some y/\∀z∈y.1.weights P dH,z∈x.1.weights P t:=by
 unfold RR at hk;split at hk
 ·rename_i g9 hu;injection hk with hk;subst hk
  obtain⟨xs,n,rfl,rfl,ad,af,aV⟩:=DataW.trod_struct hu h;refine⟨n,ad,fun i dH off sz ar aM aL=>?_⟩;unfold FB at aM;rw[hu] at aM;simp only at aM;have OV:=zA ar;rw[OV] at aM;simp only[cD,dK] at aM;obtain⟨rfl,rfl⟩:=aM;subst aL;have Vf:=aV i _ OV;have ab:i<xs.length:=by omega
  rw[eE ab] at Vf;refine⟨_,Vf,fun z aL=>?_⟩;rw[DataW.weights,hu];show z∈DataW.weightsEach P (g9.toList.map (·.type)) (xs.map (·.1));have key:∀(gF:List TypeId) (l:List (DataW H)) (j:Nat) (dH:TypeId) (y:DataW H),gF[j]?=some dH->l[j]?=some y->∀z∈y.weights P dH,z∈DataW.weightsEach P gF l:=by
   intro gF;induction gF with
   |nil=>intro l j dH y q;simp at q
   |cons t0 gF aZ=>
    intro l j dH y aX aU z aL;cases l with
    |nil=>simp at aU
    |cons d l=>
     rw[DataW.weightsEach];cases j with
     |zero=>
      simp at aX aU;subst aX;subst aU;exact nN _ aL
     |succ j=>exact eF _ (aZ l j dH y (by simpa using aX) (by simpa using aU) z aL)
  exact key _ _ i _ _ (by simp[OV]) (by simp[ab]) z aL
 ·cases hk
end
end
end Go.Opn
namespace Go.Opn
noncomputable section
open Go.Cre Go.RowKit Go.ChangeShapes Go.WideShapes
def vy {α:Type}:List (Nat×α)->Nat->Option α
 |[],_=>none
 |(u,v)::l,t=>bif Nat.beq t u then some v else vy l t
def DD:Nat->List Nat->Bool
 |_,[]=>false
 |t,u::l=>bif Nat.beq t u then true else DD t l
theorem aaf{H:Type}{enc:TypeId×Value->H}{P:Program}{W nQ:World}(aD:laidOutB P=true)(ak:Below W.heap.size W nQ){sp:Nat->Bool}:
 ∀{gF:List TypeId} {vs:List Value} {ds:List (DataW H)} {ps:List MemPlace},(∀t∈gF,P.readableRec t=true/\t<P.types.size)->DataW.TrodAll enc P W 0 (fun _=>true) true gF vs ds ps->(∀p∈ps,p.block<W.heap.size)->(∀p∈ps,sp p.block=true)->DataW.TrodAll enc P nQ 0 sp true gF vs ds ps
 |[],_,_,_,_,h,_,_=>by
  obtain⟨rfl,rfl,rfl⟩:=trodAll_nil h;rfl
 |t::gF,_,_,_,av,h,cA,ag=>by
  obtain⟨v,ap2,d,uW,a,b,rfl,rfl,rfl,ad,af⟩:=trodAll_cons h
  exact⟨a,b,WideElems.Trod_stays aD (av t (.head _)).1 (av t (.head _)).2 ad (fun x ab=>ak.same (cA x (nN _ ab))) (fun x ab=>ag x (nN _ ab)),
   aaf aD ak (fun u hu=>av u (.tail _ hu)) af (fun p ap=>cA p (eF _ ap)) (fun p ap=>ag p (eF _ ap)),rfl⟩
theorem amQ{H:Type}{enc:TypeId×Value->H}{P:Program}{f:Func}{s:ChangeSpec}{apart fresh handsOn:Bool}{W nQ:World}{args:Array Value}{v:Value}{ds gs:List (DataW H)}{before:List MemPlace}
 (gX:DataW.Whole enc P f.params.toList s.vars apart W args.toList ds gs before)(ak:Below W.heap.size W nQ)(aD:laidOutB P=true)(oP:∀t∈f.params.toList,P.readableRec t=true/\t<P.types.size)(az:s.vars=[])
 (nw:(s.fn H (ds++gs)).args=ds)(WI:(s.fn H (ds++gs)).vars=[])
 (sx:∀(b:Nat) (sp:Nat->Bool) (aq:Bool),DataW.TrodAll enc P nQ b sp aq f.resultTypes.toList (v.resultList f.resultTypes.size) (s.fn H (ds++gs)).results []):
 s.post enc P f apart fresh handsOn false W args v nQ:=by
 have cA:=gX.lt;obtain⟨p,q,ad,af,rfl,aV,bq⟩:=id gX;have V8:∀x∈p,x.block<W.heap.size:=fun x ab=>cA x (nN _ ab);refine⟨ds,gs,p++q,[],p,[],gX,sx _ _ _,?_,?_,World.keptBut_mono (fun p ap=>by cases ap) (ak.frame fun p=>p∈([]:List MemPlace)),fun h=>by cases h⟩
 ·rw[nw];exact aaf aD ak oP ad V8 (fun x ab=>by simpa using V8 x ab)
 ·rw[az,WI];rfl
end
end Go.Opn

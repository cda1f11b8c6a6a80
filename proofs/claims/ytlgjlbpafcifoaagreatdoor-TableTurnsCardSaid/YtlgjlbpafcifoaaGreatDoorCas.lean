/- A part of the proof of TableTurns. -/
import Derived.Test.YtlgjlbpafcifoaaGreatDoorCar
import Derived.Test.YtlgjlbpafcifoaaGreatDoorCaq
import Derived.Test.YtlgjlbpafcifoaaGreatDoorCao
set_option maxRecDepth 100000
set_option linter.unusedVariables false
set_option linter.unusedSimpArgs false
namespace Go.Opn
noncomputable section
open Go.Cre Go.RowKit Go.Proofs
def af.join(J bi:af):af:=fun a=>match J a with|some x=>some x|none=>bi a
theorem af.join_le{J bi:af}:J.le (J.join bi):=fun a x h=>by unfold af.join;rw[h]
theorem Inv.WW{g0:Nat}{J uh bi:af}{m':aO}{H H':an}(h:Inv g0 (hS [] H J) J [] H)(aN:uh.le J)(hk:Inv g0 (hS [] H uh) bi m' H'):Inv g0 (hS [] H J) (J.join bi) m' H'/\bi.le (J.join bi):=by
 have b9:∀a x,J a=some x->a<H.ay:=fun a x q=>by
  obtain⟨c,e⟩:=x;obtain⟨o,f,z,s,q⟩:=h.ed a c e q;exact h.wf.lt q
 have dr:∀a,¬u7 [] a:=fun a q=>absurd q (by unfold u7;exact Ik);have FG:∀a,a<H.ay->H'.mem.get a=H.mem.get a:=fun a q=>hk.fF a q (dr a);have ajf:∀a c e,J.join bi a=some (c,e)->∃o f z s,H'.mem.get a=some (.row c e o f z s):=fun a c e q=>by
  unfold af.join at q;cases gD:J a with
  |some x=>
   rw[gD] at q;injection q with q
   subst q;rw[FG a (b9 a _ gD)];exact h.ed a c e gD
  |none=>rw[gD] at q;exact hk.ed a c e q
 refine⟨⟨hk.wf,hk.bz,hk.ay,hk.cn,hk.fF,hk.mM,ajf,af.join_le,fun a x aK aH=>?_,fun a b q=>?_,fun a b q x U=>?_,hk.fT⟩,fun a x q=>?_⟩
 ·have aK:J a=none:=aK;unfold af.join at aH;rw[aK] at aH;refine hk.fresh a x ?_ aH;show uh a=none;cases ab:uh a with
  |none=>rfl
  |some y=>rw[aN _ _ ab] at aK;cases aK
 ·obtain⟨aU,aQ,bj,ct⟩:=hk.own a b q;refine⟨aU,aQ,?_,ct⟩;unfold af.join;cases gD:J a with
  |none=>exact bj
  |some y=>
   rcases aQ with k|k
   ·exact absurd (b9 a y gD) (Nat.not_lt_of_le k)
   ·exact absurd k (dr a)
 ·obtain⟨aU,aQ,bj⟩:=hk.opn a b q x U;refine⟨aU,aQ,?_⟩;unfold af.join;cases gD:J x with
  |none=>exact bj
  |some y=>
   rcases aQ with k|k
   ·exact absurd (b9 x y gD) (Nat.not_lt_of_le k)
   ·exact absurd k (dr x)
 ·unfold af.join;cases gD:J a with
  |none=>exact q
  |some y=>
   obtain⟨c,e⟩:=x;obtain⟨c',bC⟩:=y;obtain⟨o,f,z,s,cX⟩:=hk.ed a c e q;obtain⟨o',f',g3,cQ,cW⟩:=h.ed a c' bC gD;rw[<-FG a (b9 a _ gD),cX] at cW;injection cW with cW
   injection cW with aw aR
   subst aw;subst aR;rfl
section
variable {K:dy}{B:c5}{ops:List Oper}{aX:List iG}{F:List uc}{E:b0}{m m':aO}{J:af}{o:Oper}{ba:b0->aO->af->Prop}
variable {n:Nat}{ds:dJ}{l:List (Nat×Value)}{d i:Nat}
def zj(J:af)(f:FuncId)(eZ:List Value)(dg:Value->aO->af->Prop)(x:uc):Prop:=x.f=f->x.bV=eZ->x.bl=[]/\x.J.le J/\∀v m' bi de,x.dg v m' bi->bi.le de->J.le de->dg v m' de
theorem dt{J:af}{f:FuncId}{eZ:List Value}{dg:Value->aO->af->Prop}:∀x∈([]:List uc),zj J f eZ dg x:=fun x U=>by cases U
theorem cF{J:af}{f:FuncId}{eZ:List Value}{dg:Value->aO->af->Prop}{jw:uc}(aN:zj J f eZ dg jw)(h:∀x∈F,zj J f eZ dg x):∀x∈jw::F,zj J f eZ dg x:=fun x U=>by
 rcases fU.1 U with rfl|U
 ·exact aN
 ·exact h x U
theorem dh{J:af}{f:FuncId}{eZ:List Value}{dg:Value->aO->af->Prop}{jw:uc}(h:Nat.beq jw.f f=false):zj J f eZ dg jw:=fun aA=>by
 rw[aA,hd] at h;cases h
theorem bh.dV{c:Call}{x:Operand}{f:FuncId}{first cap:Array Value}{args eZ:List Value}{dg:Value->aO->af->Prop}
 (ak:nth ops i=some o)(ax:o.guard=none)(ah:o.op=.call c)(al:o.dst=some d)(az:Nat.blt d n=true)(aD:c.callee=.value x)(U:bx l x=some (.func (.func f) first cap))(aF:hC l c.args.toList=some args)(has:(first.toList++args)++cap.toList=eZ)
 (hs:∀x∈F,zj J f eZ dg x)(b3:Fn K f eZ [] J dg)(h:∀v m' ae,J.le ae->dg v m' ae->bh K B ops aX (⟨f,eZ,[],J,dg,false⟩::F) ⟨n,ds,(d,v)::l⟩ (m'++m) ae ba):bh K B ops (.bD i::aX) F ⟨n,ds,l⟩ m J ba:=by
 intro T S H b1 aj av;have ao:([]++m).Perm m:=.refl _;have fc:=av.enter (bl:=[]) ao trivial;obtain⟨v,H',ae,m',aU,aQ,bj,jM⟩:∃v H' ae m',iS K.Q f eZ H (.returned v) H'/\Inv K.g0 (hS [] H J) ae m' H'/\dg v m' ae/\∀r,T f eZ H=some r->r=(Ending.returned v,H'):=by
  cases wx:T f eZ H with
  |none=>
   obtain⟨v,H',ae,m',aU,aQ,bj⟩:=b3 H fc;exact⟨v,H',ae,m',aU,aQ,bj,fun r q=>by cases q⟩
  |some r=>
   obtain⟨x,U,⟨aw,aR,N7,v,H',bi,m',nQ,aU,aQ,bj⟩,mh⟩:=b1 _ _ _ _ wx;obtain⟨aK,aH,bJ⟩:=hs x U aw aR;rw[aK] at aQ;obtain⟨Gq,Gr⟩:=fc.WW aH aQ;exact⟨v,H',_,m',aU,Gq,bJ v m' bi _ bj Gr af.join_le,fun ch q=>by injection q with q;rw[<-q];exact nQ⟩
 have kU:H.ay<=H'.ay:=aQ.ay;obtain⟨ct,fo⟩:=av.leave ao aQ;obtain⟨a0,s1,s2⟩:=aj.put (dst:=some d) az v
 classical
 obtain⟨ck,cP,aC,mV,E',k0,nA,ab,ad,aL,a6⟩:=h v m' ae fo bj (fun f' zB H1=>if f'=f/\zB=eZ/\H1=H then some (.returned v,H') else T f' zB H1) a0 H' (fun f' zB H1 r q=>by
  split at q
  ·rename_i e;obtain⟨rfl,rfl,rfl⟩:=e;injection q with q
   exact⟨_,.head _,⟨rfl,rfl,fc,v,H',ae,m',q.symm,aU,aQ,bj⟩,fun e=>by cases e⟩
  ·obtain⟨x,U,ch,wN⟩:=b1 _ _ _ _ q;exact⟨x,.tail _ U,ch,fun e=>hA (wN e) kU⟩) s2 ct
 refine⟨fun f' bP H1=>if f'=f/\bP=eZ/\H1=H then some (.returned v,H') else ck f' bP H1,fun f' bP H1 r ch aK aH=>?_,aC,mV,E',k0,nA,fun dM q=>?_,ad,aL,a6⟩
 ·dsimp only at aH
  split at aH
  ·rename_i e;obtain⟨rfl,rfl,rfl⟩:=e;injection aH with aH
   rw[jM r aK,aH]
  ·rename_i e;exact cP f' bP H1 r ch (by rw[aZ e];exact aK) aH
 ·have gR:dM f eZ H=some (.returned v,H'):=q f eZ H _ (by simp only[IH,a2]);have wQ:∀f' bP H1 r,ck f' bP H1=some r->dM f' bP H1=some r:=fun f' bP H1 r aq=>by
   by_cases e:f'=f/\bP=eZ/\H1=H
   ·have:=cP f' bP H1 (.returned v,H') r (by rw[a2 e]) aq;rw[this,e.1,e.2.1,e.2.2];exact gR
   ·exact q f' bP H1 r (by dsimp only;rw[aZ e];exact aq)
  show h3 ops i (fun o=>iM ops (c4 K.P _ _ ops aX) (one K.P _ _ ops S H o))=_;unfold h3;rw[ak];show iM ops (c4 K.P _ _ ops aX) (one K.P _ _ ops S H o)=_;unfold one fa;rw[ax];show iM ops (c4 K.P _ _ ops aX) (np S H o.dst (cj K.P _ _ S H o))=_;have he:cj K.P (gV K.Q dM) (e8 K.Q gd dM).aE S H o=some (.val v H'):=by
   unfold cj eF;simp only[ah];show ju K.P _ c=_;unfold ju;rw[aD];show lK K.P _ _ S.T H c=_;unfold lK;rw[m6 aj H aF];simp only[aD];rw[c6 aj H U];simp only
   show(match jG K.P H (.func f) (first.toList++args) cap.toList with|some (f,eZ)=>m5 (gV K.Q _ f eZ H)|none=>none)=_
   unfold jG;simp only
   rw[has,x3 aU gR];rfl
  rw[he,al];show iM ops (c4 K.P _ _ ops aX) (mq H' (S.put (some d) v))=_;rw[s1];exact ab dM wQ
end
section
variable {K:dy}{B:c5}{ops:List Oper}{aX:List iG}{F:List uc}{E:b0}{m m':aO}{J:af}{o:Oper}{ba:b0->aO->af->Prop}
variable {n:Nat}{ds:dJ}{l:List (Nat×Value)}{d i:Nat}
theorem bh.HG{v:Value}{z0:Nat}{want:Bool}(ak:nth ops i=some o)(ax:jZ ops o=some (z0,want))(ai:look l z0=some (.bool want))(al:o.dst=some d)(az:Nat.blt d n=true)(ar:cO K B o n ds l m J v)(h:bh K B ops aX F ⟨n,ds,(d,v)::l⟩ m J ba):bh K B ops (.val i::aX) F ⟨n,ds,l⟩ m J ba:=by
 intro T S H b1 aj av;obtain⟨a0,s1,s2⟩:=aj.put (dst:=some d) az v;obtain⟨ck,cP,aC,H',E',m',ae,ab,ad,aL,a6⟩:=h T a0 H b1 s2 av;refine⟨ck,cP,aC,H',E',m',ae,fun dM q=>?_,ad,aL,a6⟩;show h3 ops i (k9 K.P _ _ ops S H (c4 K.P _ _ ops aX))=_;unfold h3;rw[ak];show k9 K.P _ _ ops S H (c4 K.P _ _ ops aX) o=_;unfold k9;rw[z1 ax (aj.get z0 _ ai),show(want==want)=true by cases want<;>rfl];show Bl S H o.dst (c4 K.P _ _ ops aX) (cj K.P _ _ S H o)=_;rw[ar _ _ S H aj av,al];show(bif Nat.beq H.ay H.ay then oL (c4 K.P _ _ ops aX) H (S.put (some d) v) else none)=_;rw[hd,b4,s1];exact ab dM q
theorem bh.x2{c:Call}{x:Operand}{f:FuncId}{first cap:Array Value}{z0:Nat}{want:Bool}{args eZ:List Value}{dg:Value->aO->af->Prop}
 (ak:nth ops i=some o)(ax:jZ ops o=some (z0,want))(ai:look l z0=some (.bool want))(ah:o.op=.call c)(al:o.dst=some d)(az:Nat.blt d n=true)(aD:c.callee=.value x)(U:bx l x=some (.func (.func f) first cap))(aF:hC l c.args.toList=some args)(has:(first.toList++args)++cap.toList=eZ)
 (hs:∀x∈F,zj J f eZ dg x)(b3:Fn K f eZ [] J dg)(h:∀v m' ae,J.le ae->dg v m' ae->bh K B ops aX (⟨f,eZ,[],J,dg,false⟩::F) ⟨n,ds,(d,v)::l⟩ (m'++m) ae ba):bh K B ops (.bD i::aX) F ⟨n,ds,l⟩ m J ba:=by
 intro T S H b1 aj av;have ao:([]++m).Perm m:=.refl _;have fc:=av.enter (bl:=[]) ao trivial;obtain⟨v,H',ae,m',aU,aQ,bj,jM⟩:∃v H' ae m',iS K.Q f eZ H (.returned v) H'/\Inv K.g0 (hS [] H J) ae m' H'/\dg v m' ae/\∀r,T f eZ H=some r->r=(Ending.returned v,H'):=by
  cases wx:T f eZ H with
  |none=>
   obtain⟨v,H',ae,m',aU,aQ,bj⟩:=b3 H fc;exact⟨v,H',ae,m',aU,aQ,bj,fun r q=>by cases q⟩
  |some r=>
   obtain⟨x,U,⟨aw,aR,N7,v,H',bi,m',nQ,aU,aQ,bj⟩,mh⟩:=b1 _ _ _ _ wx;obtain⟨aK,aH,bJ⟩:=hs x U aw aR;rw[aK] at aQ;obtain⟨Gq,Gr⟩:=fc.WW aH aQ;exact⟨v,H',_,m',aU,Gq,bJ v m' bi _ bj Gr af.join_le,fun ch q=>by injection q with q;rw[<-q];exact nQ⟩
 have kU:H.ay<=H'.ay:=aQ.ay;obtain⟨ct,fo⟩:=av.leave ao aQ;obtain⟨a0,s1,s2⟩:=aj.put (dst:=some d) az v
 classical
 obtain⟨ck,cP,aC,mV,E',k0,nA,ab,ad,aL,a6⟩:=h v m' ae fo bj (fun f' zB H1=>if f'=f/\zB=eZ/\H1=H then some (.returned v,H') else T f' zB H1) a0 H' (fun f' zB H1 r q=>by
  split at q
  ·rename_i e;obtain⟨rfl,rfl,rfl⟩:=e;injection q with q
   exact⟨_,.head _,⟨rfl,rfl,fc,v,H',ae,m',q.symm,aU,aQ,bj⟩,fun e=>by cases e⟩
  ·obtain⟨x,U,ch,wN⟩:=b1 _ _ _ _ q;exact⟨x,.tail _ U,ch,fun e=>hA (wN e) kU⟩) s2 ct
 refine⟨fun f' bP H1=>if f'=f/\bP=eZ/\H1=H then some (.returned v,H') else ck f' bP H1,fun f' bP H1 r ch aK aH=>?_,aC,mV,E',k0,nA,fun dM q=>?_,ad,aL,a6⟩
 ·dsimp only at aH
  split at aH
  ·rename_i e;obtain⟨rfl,rfl,rfl⟩:=e;injection aH with aH
   rw[jM r aK,aH]
  ·rename_i e;exact cP f' bP H1 r ch (by rw[aZ e];exact aK) aH
 ·have gR:dM f eZ H=some (.returned v,H'):=q f eZ H _ (by simp only[IH,a2]);have wQ:∀f' bP H1 r,ck f' bP H1=some r->dM f' bP H1=some r:=fun f' bP H1 r aq=>by
   by_cases e:f'=f/\bP=eZ/\H1=H
   ·have:=cP f' bP H1 (.returned v,H') r (by rw[a2 e]) aq;rw[this,e.1,e.2.1,e.2.2];exact gR
   ·exact q f' bP H1 r (by dsimp only;rw[aZ e];exact aq)
  show h3 ops i (fun o=>iM ops (c4 K.P _ _ ops aX) (one K.P _ _ ops S H o))=_;unfold h3;rw[ak];show iM ops (c4 K.P _ _ ops aX) (one K.P _ _ ops S H o)=_;unfold one;rw[z1 ax (aj.get z0 _ ai),show(want==want)=true by cases want<;>rfl];show iM ops (c4 K.P _ _ ops aX) (np S H o.dst (cj K.P _ _ S H o))=_;have he:cj K.P (gV K.Q dM) (e8 K.Q gd dM).aE S H o=some (.val v H'):=by
   unfold cj eF;simp only[ah];show ju K.P _ c=_;unfold ju;rw[aD];show lK K.P _ _ S.T H c=_;unfold lK;rw[m6 aj H aF];simp only[aD];rw[c6 aj H U];simp only
   show(match jG K.P H (.func f) (first.toList++args) cap.toList with|some (f,eZ)=>m5 (gV K.Q _ f eZ H)|none=>none)=_
   unfold jG;simp only
   rw[has,x3 aU gR];rfl
  rw[he,al];show iM ops (c4 K.P _ _ ops aX) (mq H' (S.put (some d) v))=_;rw[s1];exact ab dM wQ
theorem bh.apj{b:Bool}(ai:look l d=some (.bool b))(ab:b=true->bh K B ops aX F ⟨n,ds,(d,.bool true)::l⟩ m J ba)(aN:b=false->bh K B ops aX F ⟨n,ds,(d,.bool false)::l⟩ m J ba):bh K B ops aX F ⟨n,ds,l⟩ m J ba:=by
 intro T S H b1 aj av;have key:∀c:Bool,b=c->Sat ⟨n,ds,(d,.bool c)::l⟩ S:=fun c e=>by
  subst e;refine⟨aj.n,aj.ds,aj.bG,aj.bd,aj.cc,aj.has,fun t v q=>?_⟩;have aH:(bif Nat.beq t d then some (Value.bool b) else look l t)=some v:=q;cases bI:Nat.beq t d with
  |true=>rw[bI,b4] at aH;obtain rfl:=eb bI;rw[<-aH];exact aj.get _ _ ai
  |false=>rw[bI,da] at aH;exact aj.get t v aH
 cases b with
 |true=>exact ab rfl T S H b1 (key true rfl) av
 |false=>exact aN rfl T S H b1 (key false rfl) av
theorem bh.HJ(ak:nth ops i=some o)(eh:∀S,Sat ⟨n,ds,l⟩ S->fa ops S.T o=some false)(al:o.dst=some d)(az:Nat.blt d n=true)(h:bh K B ops aX F ⟨n,ds,(d,undef)::l⟩ m J ba):bh K B ops (.val i::aX) F ⟨n,ds,l⟩ m J ba:=by
 intro T S H b1 aj av;obtain⟨a0,s1,s2⟩:=aj.put (dst:=some d) az undef;obtain⟨ck,cP,aC,H',E',m',ae,ab,ad,aL,a6⟩:=h T a0 H b1 s2 av;refine⟨ck,cP,aC,H',E',m',ae,fun dM q=>?_,ad,aL,a6⟩;show h3 ops i (k9 K.P _ _ ops S H (c4 K.P _ _ ops aX))=_;unfold h3;rw[ak];show k9 K.P _ _ ops S H (c4 K.P _ _ ops aX) o=_;unfold k9;rw[eh S aj];show oL (c4 K.P _ _ ops aX) H (S.put o.dst undef)=_;rw[al,s1];exact ab dM q
theorem bh.adH(ak:nth ops i=some o)(eh:∀S,Sat ⟨n,ds,l⟩ S->fa ops S.T o=some false)(al:o.dst=some d)(az:Nat.blt d n=true)(h:bh K B ops aX F ⟨n,ds,(d,undef)::l⟩ m J ba):bh K B ops (.bD i::aX) F ⟨n,ds,l⟩ m J ba:=by
 intro T S H b1 aj av;obtain⟨a0,s1,s2⟩:=aj.put (dst:=some d) az undef;obtain⟨ck,cP,aC,H',E',m',ae,ab,ad,aL,a6⟩:=h T a0 H b1 s2 av;refine⟨ck,cP,aC,H',E',m',ae,fun dM q=>?_,ad,aL,a6⟩;show h3 ops i (fun o=>iM ops (c4 K.P _ _ ops aX) (one K.P _ _ ops S H o))=_;unfold h3;rw[ak];show iM ops (c4 K.P _ _ ops aX) (one K.P _ _ ops S H o)=_;unfold one;rw[eh S aj];show iM ops (c4 K.P _ _ ops aX) (mq H (S.put o.dst undef))=_;rw[al,s1];exact ab dM q
theorem bh.RX{g:Nat}{want b:Bool}(ak:nth ops i=some o)(ax:jZ ops o=some (g,want))(ai:look l g=some (.bool b))(hw:(b==want)=false)(al:o.dst=some d)(az:Nat.blt d n=true)(h:bh K B ops aX F ⟨n,ds,(d,undef)::l⟩ m J ba):bh K B ops (.val i::aX) F ⟨n,ds,l⟩ m J ba:=bh.HJ ak (Je ax ai hw) al az h
theorem bh.RY{g:Nat}{want:Bool}(ak:nth ops i=some o)(ax:jZ ops o=some (g,want))(ai:look l g=some undef)(al:o.dst=some d)(az:Nat.blt d n=true)(h:bh K B ops aX F ⟨n,ds,(d,undef)::l⟩ m J ba):bh K B ops (.val i::aX) F ⟨n,ds,l⟩ m J ba:=bh.HJ ak (NR ax ai) al az h
theorem bh.adF{g:Nat}{want b:Bool}(ak:nth ops i=some o)(ax:jZ ops o=some (g,want))(ai:look l g=some (.bool b))(hw:(b==want)=false)(al:o.dst=some d)(az:Nat.blt d n=true)(h:bh K B ops aX F ⟨n,ds,(d,undef)::l⟩ m J ba):bh K B ops (.bD i::aX) F ⟨n,ds,l⟩ m J ba:=bh.adH ak (Je ax ai hw) al az h
theorem bh.nil(h:ba E m J):bh K B ops [] F E m J ba:=bh.Dp (F':=F.map fun x=>(x.f,x.bV)) (fun x U=>L2 (f:=fun x=>(x.f,x.bV)) U) (cm.nil h)
theorem abi(d:Nat){b:Bool}{cP ic:Prop}(ab:cP->bh K B ops aX F ⟨n,ds,(d,.bool true)::l⟩ m J ba)(aN:ic->bh K B ops aX F ⟨n,ds,(d,.bool false)::l⟩ m J ba)(ai:look l d=some (.bool b):=by exact rfl) (hs:oo b cP ic:=by first|exact oo.p _|exact oo.b _):bh K B ops aX F ⟨n,ds,l⟩ m J ba:=bh.apj ai (fun q=>ab (hs.y q)) (fun q=>aN (hs.n q))
end
end
end Go.Opn
set_option maxHeartbeats 8000000
namespace Go.Opn
noncomputable section
open Go.Cre Go.RowKit Go.Proofs
section
variable {Q:cZ Tryz.prog}{g0:Nat}{B:c5}{o:Oper}{n:Nat}{ds:dJ}{l:List (Nat×Value)}{m:aO}{J:af}{d:Nat}
theorem Qy{p:Prop}(h:p:=by first|exact al'|exact b6 some (b6 (Value.int .u64) I)|exact b6 some (b6 (Value.int .u32) I)|exact b6 some (b6 (Value.int .i64) I)):p:=h
theorem QY{p:Prop}(h:p:=by first|decide|exact cC|exact(show _<=((64:Nat):Int) from I)):p:=h
theorem amz{p:Prop}(h:p:=by first|exact wrap_i64 I I|exact wrap_u8 I I|exact wrap_u64 I I|exact wrap_u32 I I|rfl):p:=h
theorem V.o3{v:Value}(h:cO (aT Q g0) B o n ds l m J v:=by first|exact aqv rfl rfl rfl|exact aqQ rfl rfl rfl|exact aqT rfl rfl rfl cC QY|exact aqz rfl rfl rfl rfl cC QY|exact aqV rfl rfl rfl cC QY|exact xC rfl rfl amz):cO (aT Q g0) B o n ds l m J v:=h
theorem gn{ops rest:List Oper}{ba:Option (List PanicEntry)->b0->aO->af->Prop}{t:TypeId}{z:Value}{cells:List Value}(h:∀a,W (aT Q g0) B ops rest ⟨n,ds,(d,.pointer (some ⟨a,0,none⟩))::l⟩ ((a,.row cells t)::m) J ba)(ax:o.guard=none:=by exact rfl) (ah:o.op=.alloc t:=by exact rfl) (al:o.dst=some d:=by exact rfl) (az:Nat.blt d n=true:=by exact rfl) (aG:gX (aT Q g0).P t=some z:=by exact Ll rfl) (ao:plain z=true:=by exact rfl) (aD:z.cells.toList=cells:=by exact rfl) (ab:cells.all eV=true:=by exact rfl):W (aT Q g0) B ops (o::rest) ⟨n,ds,l⟩ m J ba:=W.step ax (.of (arv ah al az aG ao aD ab h))
theorem iK{ops rest:List Oper}{ba:Option (List PanicEntry)->b0->aO->af->Prop}{t:TypeId}{x y:Operand}{a off k:Nat}{v:Value}{vs cells cells':List Value}{e:TypeId}{m':aO}(hs:gf off cells vs=some cells')(h:W (aT Q g0) B ops rest ⟨n,ds,l⟩ m' J ba)(ax:o.guard=none:=by exact rfl) (ah:o.op=.store t x y:=by exact rfl) (al:o.dst=none:=by exact rfl) (U:bx l x=some (.pointer (some ⟨a,off,none⟩)):=by exact rfl) (au:bx l y=some v:=by exact rfl) (hk:ey (aT Q g0).P t=some k:=by exact tT rfl) (aD:v.cells.toList=vs:=by exact rfl) (ap:Nat.beq vs.length k=true:=by exact rfl) (aN:Nat.blt 0 vs.length=true:=by exact rfl) (ab:vs.all eV=true:=by first|rfl|assumption) (ao:eS m a (.row cells e) (.row cells' e) m':=by repeat first|exact .head _ _ _ _|apply eS.tail|apply eS.app):W (aT Q g0) B ops (o::rest) ⟨n,ds,l⟩ m J ba:=W.step ax (.of (Bs ah al U au hk aD ap aN ab hs ao h))
theorem c8{cd:Exit->b0->aO->af->Prop}{c:Code}(l':List (Nat×Value))(h:aB (aT Q g0) B c ⟨n,ds,l'⟩ m J cd)(ap:kl l l':=by repeat first|exact trivial|refine⟨Qy,?_⟩):aB (aT Q g0) B c ⟨n,ds,l⟩ m J cd:=aB.Lz ap (ih _) h
theorem bo{e:Exit}{E:b0}{rs:List ResultVar}{vs:List Value}{xV:List Value->aO->Prop}(ao:xV vs [])(he:e=.normal\/e=.ret:=by first|exact .inl rfl|exact .inr rfl) (al:E.ds.ds=[]:=by exact rfl) (aq:l6 (aT Q g0).P E m J rs vs:=by first|exact .tmp rfl .nil|exact .tmp rfl (.tmp rfl .nil)|exact .nil|exact oa .nil|exact oa (oa .nil)|exact oa (.tmp rfl .nil)|exact .tmp rfl (oa .nil)|exact .tmp rfl (.tmp rfl (.tmp rfl .nil))):(e=.normal\/e=.ret)/\E.ds.ds=[]/\∃vs m',l6 (aT Q g0).P E m J rs vs/\m'.Sublist m/\xV vs m':=⟨he,al,vs,[],aq,kF _,ao⟩
theorem oi{e:Exit}{E:b0}{rs:List ResultVar}{vs:List Value}{xV:List Value->aO->Prop}(ao:xV vs m)(he:e=.normal\/e=.ret:=by first|exact .inl rfl|exact .inr rfl) (al:E.ds.ds=[]:=by exact rfl) (aq:l6 (aT Q g0).P E m J rs vs:=by first|exact .tmp rfl .nil|exact .tmp rfl (.tmp rfl .nil)|exact .nil|exact oa .nil|exact oa (oa .nil)|exact oa (.tmp rfl .nil)|exact .tmp rfl (oa .nil)|exact .tmp rfl (.tmp rfl (.tmp rfl .nil))):(e=.normal\/e=.ret)/\E.ds.ds=[]/\∃vs m',l6 (aT Q g0).P E m J rs vs/\m'.Sublist m/\xV vs m':=⟨he,al,vs,m,aq,ih _,ao⟩
end
structure SG where
 d:List (Nat×Value)
 m:aO
 j:af
 i:Prop
structure SH where
 d:List (Nat×Value)
 i:Prop
 k:Nat
section
variable {K:dy}{B:c5}{cd:Exit->b0->aO->af->Prop}{n:Nat}{ds:dJ}{l:List (Nat×Value)}{m:aO}{J:af}
theorem aB.lk{α:Type}{c:Code}(k:Nat)(r:α->SG)(ab:aB K B c ⟨n,ds,l⟩ m J fun e E' m' ae=>match e with
 |.normal=>∃s l',(r s).i/\E'=⟨n,ds,l'⟩/\kl l' ((r s).d++l.drop k)/\(∃j,((r s).m++j).Perm m')/\ae=(r s).j
 |e=>cd e E' m' ae)(ad:∀s,(r s).i->cd .normal ⟨n,ds,(r s).d++l.drop k⟩ (r s).m (r s).j):aB K B c ⟨n,ds,l⟩ m J cd:=
 aB.aep k (fun s=>(r s).d) (fun s=>(r s).m) (fun s=>(r s).j) (fun s=>(r s).i) ab ad
theorem fW{α:Type}{r:α->SG}{base:List (Nat×Value)}(cQ:α)(ak:(r cQ).i)(hm:∃j,((r cQ).m++j).Perm m:=by exact akC) (aY:J=(r cQ).j:=by exact rfl) (ap:kl l ((r cQ).d++base):=by repeat first|exact trivial|refine⟨Qy,?_⟩):∃s l',(r s).i/\(⟨n,ds,l⟩:b0)=⟨n,ds,l'⟩/\kl l' ((r s).d++base)/\(∃j,((r s).m++j).Perm m)/\J=(r s).j:=⟨cQ,l,ak,rfl,ap,hm,aY⟩
theorem aB.ja{α:Type}{c:Code}{base:List (Nat×Value)}(r:α->SH)(s:α)(hs:(r s).i)
 (bb:∀s,(r s).i->aB K B c ⟨n,ds,(r s).d++base⟩ m J fun e E cL bi=>match e with
  |.normal=>∃cQ l,(r cQ).i/\(r cQ).k<(r s).k/\E=⟨n,ds,l⟩/\kl l ((r cQ).d++base)/\m.Sublist cL/\bi=J
  |e=>cd e E cL bi):aB K B (.loop c) ⟨n,ds,(r s).d++base⟩ m J cd:=
 aB.ali (fun s=>(r s).d) (fun s=>(r s).i) (fun s=>(r s).k) s hs bb
theorem jf{α:Type}{r:α->SH}{base:List (Nat×Value)}{jM:Nat}{cL:aO}{bi:af}(cQ:α)(ak:(r cQ).i)(hm:m.Sublist cL:=by exact .refl _) (aY:bi=J:=by exact rfl) (hk:(r cQ).k<jM:=by first|omega|(simp;omega)|(simp only;omega)) (ap:kl l ((r cQ).d++base):=by repeat first|exact trivial|refine⟨Qy,?_⟩):∃cQ l',(r cQ).i/\(r cQ).k<jM/\(⟨n,ds,l⟩:b0)=⟨n,ds,l'⟩/\kl l' ((r cQ).d++base)/\m.Sublist cL/\bi=J:=⟨cQ,l,ak,hk,rfl,ap,hm,aY⟩
theorem dO{base:List (Nat×Value)}{t:Nat}{v:Value}{m':aO}{ae:af}(h:look l t=some v)(hm:m'.Sublist m:=by exact .refl _) (aY:ae=J:=by exact rfl) (ap:kl l base:=by repeat first|exact trivial|refine⟨rfl,?_⟩):(∃l',(⟨n,ds,l⟩:b0)=⟨n,ds,l'⟩/\kl l' ([(t,v)]++base))/\m'.Sublist m/\ae=J:=⟨⟨_,rfl,⟨h,ap⟩⟩,hm,aY⟩
theorem dS{p q:Prop}(h:p)(nk:Hid p->q:=by
 intro me;first|exact Ub rfl me.out|exact T' rfl me.out|exact Ua rfl me.out|exact aen rfl me.out):q:=nk ⟨h⟩
end
structure xK (c:Nat):Prop where
 t:True
theorem xK.d{c:Nat}(_:xK c):xK (Nat.div c 32):=⟨trivial⟩
theorem xK.v{c:Nat}(_:xK c)(k:Nat)(_:Nat.mod c 32=k):True:=trivial
theorem xK.g{c:Nat}(_:xK c)(_:(Nat.blt 0 (Nat.mod c 32)&&Nat.blt (Nat.mod c 32) 23)=true):True:=trivial
theorem aa{p q:Prop}(c:Nat)(h:p)(nk:Hid p->xK c->q:=by
 intro me fm;repeat first
  |(have:=fm.g rfl
    first
       |refine' eT ?ar ?_
       |refine' Iw ?ar ?_
       |refine' xM rfl ?ar ?_
       |refine' abb rfl ?ar ?_
       |refine' abY rfl ?ar ?_
       |refine' abZ rfl ?ar ?_
       |refine' bh.val rfl rfl rfl rfl ?ar ?_
       |refine' bh.HG rfl rfl rfl rfl rfl ?ar ?_
    case ar=>
       first
       |(have:=fm.v 1 rfl;exact V.k2)
       |(have:=fm.v 2 rfl;exact V.IJ)
       |(have:=fm.v 3 rfl;exact V.hI)
       |(have:=fm.v 4 rfl;exact V.Lv)
       |(have:=fm.v 5 rfl;exact V.Kl)
       |(have:=fm.v 6 rfl;exact V.c7)
       |(have:=fm.v 7 rfl;exact V.ex)
       |(have:=fm.v 8 rfl;exact V.ck)
       |(have:=fm.v 9 rfl;exact V.W')
       |(have:=fm.v 10 rfl;exact V.lx)
       |(have:=fm.v 11 rfl;exact V.W8)
       |(have:=fm.v 12 rfl;exact V.W9)
       |(have:=fm.v 13 rfl;exact V.NH)
       |(have:=fm.v 14 rfl;exact V.o5)
       |(have:=fm.v 15 rfl;exact V.EV)
       |(have:=fm.v 16 rfl;exact V.uz)
       |(have:=fm.v 17 rfl;exact V.GX)
       |(have:=fm.v 18 rfl;exact V.fn)
       |(have:=fm.v 19 rfl;exact V.WN)
       |(have:=fm.v 20 rfl;exact V.o3)
       |(have:=fm.v 21 rfl;exact V.WL)
       |(have:=fm.v 22 rfl;exact V.QC)
    replace fm:=fm.d)
  |(have:=fm.v 23 rfl;repeat refine aB.seq ?_
    replace fm:=fm.d)
  |(have:=fm.v 24 rfl;first|refine kr ?_|refine cm.nil ?_|refine fL.nil ?_
    replace fm:=fm.d)
  |(have:=fm.v 25 rfl;repeat refine aB.seq ?_
    refine aB.region ?_;replace fm:=fm.d)
  |(have:=fm.v 26 rfl;first|refine aB.skip ?_|refine aB.ret ?_|refine aB.block ?_|refine aB.exit ?_|refine aB.region ?_|refine aB.aee rfl ?_|refine aB.aed rfl ?_
    replace fm:=fm.d)
  |(have:=fm.v 27 rfl;first|refine ab7 ?_|refine ab' ?_|refine ab2 rfl ?_|refine fL.RY rfl rfl rfl rfl rfl ?_|refine bh.RX rfl rfl rfl rfl rfl rfl ?_|refine bh.RY rfl rfl rfl rfl rfl ?_
    replace fm:=fm.d)
  |(have:=fm.v 28 rfl;first|refine ab9 ?_|refine abd rfl ?_
    replace fm:=fm.d)
  |(have:=fm.v 29 rfl;first|refine cm.ca ft ?_|refine bh.ca ft ?_|refine fL.ca ft ?_
    replace fm:=fm.d)
  |(have:=fm.v 30 rfl;first|refine cm.Yl ?_|refine bh.Dp (fun x U=>L2 (f:=fun x=>(x.f,x.bV)) U) ?_
    replace fm:=fm.d)
  |(have:=fm.v 31 rfl;first|refine W.UY rfl rfl rfl rfl rfl ?_|refine W.ag4 rfl rfl rfl rfl ?_|refine aB.alk ?_
    replace fm:=fm.d)
 exact me.out):q:=nk ⟨h⟩ ⟨trivial⟩
end
end Go.Opn
namespace Go.Opn
noncomputable section
open Go.Cre Go.RowKit
open Classical
section
variable {K:dy}{B:c5}{ops rest:List Oper}{o:Oper}{n:Nat}{ds:dJ}{l:List (Nat×Value)}{d:Nat}{m m':aO}{J:af}{ba:Option (List PanicEntry)->b0->aO->af->Prop}{cd:Exit->b0->aO->af->Prop}
theorem W.aa0{c:Call}{x:Operand}{bA:Nat}{args:List Value}{bl c2:aO}{gT:Value->aO->af->Prop}{e9:List PanicEntry->aO->af->Prop}
 (ax:o.guard=none)(ah:o.op=.call c)(al:o.dst=some d)(az:Nat.blt d n=true)(aD:c.callee=.value x)(U:bx l x=some (.func (.yield bA) #[] #[]))(aF:hC l c.args.toList=some args)
 (ao:(bl++c2).Perm m)(b3:sX K bA args bl J gT e9)(h:∀v m' ae,J.le ae->gT v m' ae->W K B ops rest ⟨n,ds,(d,v)::l⟩ (m'++c2) ae ba)
 (bI:∀bk m' ae,J.le ae->e9 bk m' ae->ba (some bk) ⟨n,ds,l⟩ (m'++c2) ae):W K B ops (o::rest) ⟨n,ds,l⟩ m J ba:=by
 intro S H aj av;obtain⟨H',ae,m',ek,ck,aQ,bj⟩:=b3 H (av.enter ao trivial);obtain⟨ct,fo⟩:=av.leave ao aQ;rcases bj with⟨v,aU,bj⟩|⟨bk,aU,bj⟩
 ·obtain⟨a0,s1,s2⟩:=aj.put (dst:=some d) az v;obtain⟨p,aC,mV,E',k0,nA,cX,cW,eR,hH⟩:=h v m' ae fo bj a0 H' s2 ct;refine⟨p,aC,mV,E',k0,nA,.cons ek ck ?_ cX,cW,eR,hH⟩;rw[AP ax,aa1 aj ah aD U aF,aU,al];show mq H' (S.put (some d) v)=_;rw[s1];rfl
 ·refine⟨some bk,S,H',⟨n,ds,l⟩,m'++c2,ae,.fO ek ck ?_,aj,ct,bI bk m' ae fo bj⟩;rw[AP ax,aa1 aj ah aD U aF,aU];rfl
theorem aB.Rg{f:Operand}{params:Array Tmp}{assign body:Code}{g:FuncId}{first cap:Array Value}(p8:ds.cc=none)(aA:bx l f=some (.func (.func g) first cap))
 (h:∀kO bA (r:oP),ue r n params.toList assign body bA l->∃bl c2 dg e9,(bl++c2).Perm ((bA,.loop r)::(kO,.gk)::m)/\yK bl/\
  lb K g ((first.toList++[.func (.yield bA) #[] #[]])++cap.toList) bl J dg e9/\(∀bk m' ae,J.le ae->e9 bk m' ae->cd (.panic bk) ⟨n,ds.plus kO,l⟩ (m'++c2) ae)/\∀v m' ae,J.le ae->dg v m' ae->∃ch k0,eS (m'++c2) bA (.loop ch) (.loop {ch with state:=.exhausted}) k0/\ch.state≠.busy/\YC cd ⟨n,ds.plus kO,l⟩ k0 ae ch.pending):
 aB K B (.rangeFunc f params assign body) ⟨n,ds,l⟩ m J cd:=
 aB.an7 p8 aA fun kO bA T b1=>h kO bA ⟨.ready,none,T,n,params.toList,assign,body,kO⟩ ⟨rfl,rfl,rfl,rfl,rfl,rfl,b1⟩
theorem sX.QT{bA:Nat}{r:oP}{params:List Tmp}{assign body:Code}{args:List Value}{bl:aO}{gT:Value->aO->af->Prop}{e9:List PanicEntry->aO->af->Prop}(aq:ue r n params assign body bA l)(Ag:(bA,.loop r)∈bl)(JW:uw n params=true)(hlen:params.length=args.length)
 (h:∀H,aB K (hS bl H J) assign ⟨n,zR bA,LI params args l⟩ bl J fun e E m bi=>e=.normal/\∃cL,eS m bA (.loop r) (.loop {r with state:=.busy}) cL/\
  aB K (hS bl H J) body E cL bi fun e E m de=>(∃j cW eA lU,C' e=some j/\eS m bA (.loop cW) (.loop {cW with state:=if j.isNone then .ready else .done,pending:=j}) eA/\lU.Sublist eA/\gT (.bool j.isNone) lU de)\/
   ∃bk lU,e=.panic bk/\E.ds.ds=[]/\lU.Sublist m/\e9 bk lU de):sX K bA args bl J gT e9:=by
 obtain⟨ab,rfl,rfl,rfl,rfl,_,fX⟩:=aq;exact sX.of ab Ag fX JW hlen h
theorem lb.KO{f:FuncId}{fn:Func}{c:Code}{args:List Value}{bl:aO}{gT:Value->aO->af->Prop}{e9:List PanicEntry->aO->af->Prop}(aA:K.e5.get f=some fn)(ai:fn.body=some c)(ap:Nat.ble args.length fn.ntmps=true)
 (h:∀H,aB K (hS bl H J) c ⟨fn.ntmps,x8,sY args 0⟩ bl J fun e E m ae=>∃u cL,GL e=some u/\zp E.ds.ds m cL/\Ends K fn E cL ae u gT e9):lb K f args bl J gT e9:=by
 intro H av;obtain⟨T,a7,bc⟩:=MA (eM:=x8) ap;have aj:=bc false .run rfl;obtain⟨e,aC,H',E',cL,ae,aU,aQ,bj,u,eA,ct,fo,jN⟩:=h H _ H aj av;obtain⟨bK,aK,aH⟩:=fo.Zw (XX ct) (E':=oR K.Q (kb c ⟨T,fn.ntmps,[],false,.run,none⟩ H (e,aC,H')) vf) (fn:=fn) (T:=aC.T) bj;obtain⟨m',ab,ad⟩:=jN.uH (V:=oR K.Q (kb c ⟨T,fn.ntmps,[],false,.run,none⟩ H (e,aC,H')) vf) aQ aK;refine⟨bK,ae,m',ab,?_⟩;rcases ad with⟨v,ad,aL⟩|⟨bk,ad,aL⟩
 ·refine .inl ⟨v,iS.DG K.cw vf aA ai a7 aU (bd:=aC.bd) ?_,aL⟩;rw[BY ct,aQ.ds,aH _ ad];rfl
 ·refine .inr ⟨bk,iS.DG K.cw vf aA ai a7 aU (bd:=aC.bd) ?_,aL⟩;rw[BY ct,aQ.ds,aH _ ad];rfl
def Kg (ops:List Oper)(l:List (Nat×Value)):List (Nat×Value):=l.filter fun x=>vg ops x.1
theorem alh{t:Nat}{v:Value}:∀{l:List (Nat×Value)},look (Kg ops l) t=some v->vg ops t=true/\look l t=some v:=by
 intro l;induction l with
 |nil=>intro h;cases h
 |cons x l aP=>
  obtain⟨u,y⟩:=x;intro h;have h:look (List.filter (fun x=>vg ops x.1) ((u,y)::l)) t=some v:=h;rw[List.filter_cons] at h;show _/\(bif Nat.beq t u then some y else look l t)=some v;split at h
  ·rename_i ao;have h:(bif Nat.beq t u then some y else look (Kg ops l) t)=some v:=h;cases ai:Nat.beq t u with
   |true=>
    rw[ai,b4] at h;have e:=eb ai;exact⟨e▸ao,h⟩
   |false=>rw[ai,da] at h;exact aP h
  ·rename_i ao;obtain⟨aK,aH⟩:=aP h;cases ai:Nat.beq t u with
   |true=>
    obtain rfl:=eb ai;exact absurd aK ao
   |false=>exact⟨aK,aH⟩
theorem Sat.gone{S:aV}(h:Sat ⟨n,ds,l⟩ S):Sat ⟨0,ds,Kg ops l⟩ (S.gone (vg ops)):=
 ⟨rfl,h.ds,h.bG,h.bd,h.cc,fun t q=>absurd q (Ee _),fun t v q=>by
  obtain⟨aK,aH⟩:=alh q;show(S.T.fF (vg ops)).get t=some v;rw[aW.Fa,aK];exact h.get t v aH⟩
def WP(K:dy)(B:c5)(ops:List Oper)(aX:List iG)(F:List (FuncId×List Value))(E:b0)(m:aO)(J:af)(cd:Exit->b0->aO->af->Prop):Prop:=
 ∀S H,Sat E S->Inv K.g0 B J m H->∃ck:eo,(∀f args H r,ck f args H=some r->(f,args)∉F)/\∃bB e aC H' E' m' ae,
  (∀dM:eo,(∀f args H r,ck f args H=some r->dM f args H=some r)->c4 K.P (gV K.Q dM) (e8 K.Q gd dM).aE ops aX S H=some bB)/\qp (some bB)=some (e,aC,H')/\Sat E' aC/\Inv K.g0 B ae m' H'/\cd e E' m' ae
variable {aX:List iG}{F:List (FuncId×List Value)}{E:b0}{i:Nat}
theorem aB.afg{id:Nat}{a:Array Oper}(ap:Gv a.toList=none)(bu:B7 a.toList=true)(ao:Hh a.toList=aX)(h:WP K B a.toList aX [] E m J cd):aB K B (.region id a true) E m J cd:=by
 intro S H aj av;obtain⟨ck,_,bB,e,aC,H',E',m',ae,ab,aN,ad,aL,a6⟩:=h S H aj av;refine⟨e,aC,H',E',m',ae,dk.vh K.cw.qi gd ck ?_,ad,aL,a6⟩;show qp (uI K.P (e8 K.Q gd ck).call (e8 K.Q gd ck).aE a.toList S H)=_;rw[H3];unfold uI;rw[ap];show qp (wc K.P (gV K.Q ck) (e8 K.Q gd ck).aE a.toList S H)=_;unfold wc;rw[bu,b4,ao,ab ck (fun _ _ _ _ q=>q)];exact aN
theorem WP.Dp(h:cm K B ops aX F E m J fun E m J=>cd .normal E m J):WP K B ops aX F E m J cd:=fun S H aj av=>by
 obtain⟨ck,cP,aC,H',E',m',ae,ab,ad,aL,a6⟩:=h S H aj av;exact⟨ck,cP,_,_,aC,H',E',m',ae,ab,rfl,ad,aL,a6⟩
theorem WP.val{v:Value}(ak:nth ops i=some o)(ar:cO K B o n ds l m J v)(h:WP K B ops aX F ⟨n,ds,(d,v)::l⟩ m J cd)(ax:o.guard=none:=by exact rfl) (al:o.dst=some d:=by exact rfl) (az:Nat.blt d n=true:=by exact rfl):WP K B ops (.val i::aX) F ⟨n,ds,l⟩ m J cd:=by
 intro S H aj av;obtain⟨a0,s1,s2⟩:=aj.put (dst:=some d) az v;obtain⟨ck,cP,bB,e,aC,H',E',m',ae,ab,aN,ad,aL,a6⟩:=h a0 H s2 av;refine⟨ck,cP,bB,e,aC,H',E',m',ae,fun dM q=>?_,aN,ad,aL,a6⟩;show h3 ops i (k9 K.P _ _ ops S H (c4 K.P _ _ ops aX))=_;unfold h3;rw[ak];show k9 K.P _ _ ops S H (c4 K.P _ _ ops aX) o=_;unfold k9 fa;rw[ax];show Bl S H o.dst (c4 K.P _ _ ops aX) (cj K.P _ _ S H o)=_;rw[ar _ _ S H aj av,al];show(bif Nat.beq H.ay H.ay then oL (c4 K.P _ _ ops aX) H (S.put (some d) v) else none)=_;rw[hd,b4,s1];exact ab dM q
theorem WP.IV{c:Call}{x:Operand}{f:FuncId}{first cap:Array Value}{args bV:List Value}{bl c2:aO}{gT:Value->aO->af->Prop}{e9:List PanicEntry->aO->af->Prop}
 (ak:nth ops i=some o)(ax:o.guard=none)(ah:o.op=.call c)(al:o.dst=some d)(az:Nat.blt d n=true)(aD:c.callee=.value x)(U:bx l x=some (.func (.func f) first cap))(aF:hC l c.args.toList=some args)(has:(first.toList++args)++cap.toList=bV)
 (aA:F.all (fun g=>!Nat.beq g.1 f)=true)(ao:(bl++c2).Perm m)(b3:lb K f bV bl J gT e9)(h:∀v m' ae,J.le ae->gT v m' ae->WP K B ops aX ((f,bV)::F) ⟨n,ds,(d,v)::l⟩ (m'++c2) ae cd)
 (bI:∀bk m' ae,J.le ae->e9 bk m' ae->cd (.panic bk) ⟨0,ds,Kg ops l⟩ (m'++c2) ae):WP K B ops (.bD i::aX) F ⟨n,ds,l⟩ m J cd:=by
 intro S H aj av;have aA:(f,bV)∉F:=fun q=>by
  rw[rF] at aA;have:=aA (f,bV) q;simp at this
 obtain⟨H',ae,m',aQ,u'⟩:=b3 H (av.enter ao trivial);obtain⟨ct,fo⟩:=av.leave ao aQ;have key:∀(dM:eo) (e:Ending),iS K.Q f bV H e H'->dM f bV H=some (e,H')->h3 ops i (fun o=>iM ops (c4 K.P (gV K.Q dM) (e8 K.Q gd dM).aE ops aX) (one K.P (gV K.Q dM) (e8 K.Q gd dM).aE ops S H o))=iM ops (c4 K.P (gV K.Q dM) (e8 K.Q gd dM).aE ops aX) (np S H (some d) (m5 (some (e,H')))):=fun dM e aU gR=>by
  unfold h3;rw[ak];show iM ops (c4 K.P _ _ ops aX) (one K.P _ _ ops S H o)=_;unfold one fa;rw[ax];show iM ops (c4 K.P _ _ ops aX) (np S H o.dst (cj K.P _ _ S H o))=_;have he:cj K.P (gV K.Q dM) (e8 K.Q gd dM).aE S H o=m5 (some (e,H')):=by
   unfold cj eF;simp only[ah];show ju K.P _ c=_;unfold ju;rw[aD];show lK K.P _ _ S.T H c=_;unfold lK;rw[m6 aj H aF];simp only[aD];rw[c6 aj H U];simp only
   show(match jG K.P H (.func f) (first.toList++args) cap.toList with|some (f,bV)=>m5 (gV K.Q _ f bV H)|none=>none)=_
   unfold jG;simp only
   rw[has,x3 aU gR]
  rw[he,al]
 rcases u' with⟨v,aU,bj⟩|⟨bk,aU,bj⟩
 ·obtain⟨a0,s1,s2⟩:=aj.put (dst:=some d) az v;obtain⟨ck,cP,bB,e,aC,mV,E',k0,nA,ab,aN,ad,aL,a6⟩:=h v m' ae fo bj a0 H' s2 ct;refine⟨fun f' bP H1=>if f'=f/\bP=bV then ka f bV H (.returned v,H') f' bP H1 else ck f' bP H1,fun f' bP H1 r q=>?_,bB,e,aC,mV,E',k0,nA,fun dM q=>?_,aN,ad,aL,a6⟩
  ·simp only at q;split at q
   ·rename_i e;rw[e.1,e.2];exact aA
   ·exact fun ch=>cP f' bP H1 r q (SX _ ch)
  ·have gR:dM f bV H=some (.returned v,H'):=q f bV H _ (by simp only[IH,a2];unfold ka;rw[a2 ⟨rfl,rfl,rfl⟩]);have wQ:∀f' bP H1 r,ck f' bP H1=some r->dM f' bP H1=some r:=fun f' bP H1 r aq=>q f' bP H1 r (by
    simp only
    rw[aZ (fun e=>cP f' bP H1 r aq (by rw[e.1,e.2];exact List.mem_cons_self))];exact aq)
   refine(key dM _ aU gR).trans ?_;show iM ops (c4 K.P _ _ ops aX) (mq H' (S.put (some d) v))=_;rw[s1];exact ab dM wQ
 ·refine⟨ka f bV H (.panicked bk,H'),fun f' bP H1 r q=>?_,.fO bk (S.gone (vg ops)) H',.panic bk,_,H',_,m'++c2,ae,fun dM q=>?_,rfl,aj.gone,ct,bI bk m' ae fo bj⟩
  ·unfold ka at q;split at q
   ·rename_i e;rw[e.1,e.2.1];exact aA
   ·cases q
  ·exact key dM _ aU (q f bV H _ (by unfold ka;rw[a2 ⟨rfl,rfl,rfl⟩]))
end
end
end Go.Opn
namespace Go.Opn
noncomputable section
open Go.Cre Go.RowKit Go.Proofs
abbrev dC{α:Type}(R:α->Value->Prop):α->List Value->Prop:=fun x cs=>∃v,cs=[v]/\R x v
theorem dz.db{α:Type}{J:af}{e:TypeId}{n c:Nat}{b:Option Addr}{R:α->Value->Prop}{xs:List α}(h:dz J e 1 (dC R) (.slice b n c) xs):0<n->∃kt off cells e,b=some ⟨kt,off,none⟩/\J kt=some (cells,e)/\∀i:Nat,i<n->∃v,nth cells (off+(i:Int).toNat*1)=some v/\∃x,xs[i]?=some x/\R x v:=fun ao=>by
 obtain⟨ab,ad⟩:=h.at;obtain⟨a,off,cells,bC,aU,aQ,bj⟩:=ad I;refine⟨a,off,cells,bC,aU,aQ,fun i ak=>?_⟩;obtain⟨x,cs,aK,aH,bJ,v,rfl,fP⟩:=bj i I I;rw[h9] at aK;exact⟨v,bJ 0 v bm rfl,x,aK,fP⟩
abbrev Zc(om:Nat->aO->af->Prop)(uo:aO->af->Prop)(i:Nat):Value->aO->af->Prop:=fun w m' ae=>∃t,w=.bool t/\(t=true->om (i+1) m' ae)/\(t=false->uo m' ae)
section
variable {Q:cZ Tryz.prog}{g0:Nat}{J:af}
theorem LE{fn:Func}{e:Exit}{E:b0}{m m':aO}{vs:List Value}{gT:Value->aO->af->Prop}{e9:List PanicEntry->aO->af->Prop}(ao:gT (ql vs) m' J)(he:GL e=some .returning:=by exact rfl) (al:E.ds.ds=[]:=by exact rfl) (aq:l6 (aT Q g0).P E m J fn.results.toList vs:=by first|exact .nil|exact .tmp rfl .nil|exact oa .nil) (hs:m'.Sublist m:=by first|exact .refl _|exact kF _):Leaves (aT Q g0) fn e E m J gT e9:=⟨.returning,he,.inl ⟨al,.inl ⟨rfl,vs,m',aq,hs,ao⟩⟩⟩
theorem Zq{om:Nat->aO->af->Prop}{uo:aO->af->Prop}{e9:List PanicEntry->aO->af->Prop}{G:Nat->Value->Prop}{bA a7 n c:Nat}{b:Option Addr}{w6:aO}(az:n<9223372036854775807)
 (db:0<n->∃kt off cells e,b=some ⟨kt,off,none⟩/\J kt=some (cells,e)/\∀i:Nat,i<n->∃v,nth cells (off+(i:Int).toNat*1)=some v/\G i v)(aN:om 0 w6 J)
 (hh:∀i v m cb,i<n->G i v->J.le cb->om i m cb->sX (aT Q g0) bA [v] m cb (Zc om uo i) e9):
 lb (aT Q g0) 68 [.func (.yield bA) #[] #[],.pointer (some ⟨a7,0,none⟩)] ((a7,.row [.slice b n c] 24)::w6) J (fun w m' ae=>J.le ae/\(om n m' ae\/uo m' ae)) (fun bk m' ae=>J.le ae/\e9 bk m' ae):=by
 refine lb.b8 (b7 Tryz.func68) rfl rfl fun H=>?_;refine aa 0xbeaf809539 ?_;refine aB.mN (m':=w6++[(a7,.row [.slice b n c] 24)]) (vH _ _) ?_;refine c8 [(7,.int .i64 ((0):Int)),(0,_),(5,_),(6,_)] ?_;refine a' ?_;refine' aB.bA (fun(bE:Nat×aO×af)=>match bE with|(i,jc,cb)=>⟨[(7,.int .i64 (i:Int))],jc++[(a7,.row [.slice b n c] 24)],cb,i<=n/\J.le cb/\om i jc cb,n -i⟩) ⟨0,w6,J⟩ ?hs ?bb
 case hs=>exact⟨df _,af.le.refl _,aN⟩
 case bb=>
  rintro⟨i,jc,cb⟩ hinv;try simp only at hinv
  obtain⟨ak,bS,cw⟩:=hinv;refine aa 0xbe099 ?_;refine If (fun fC=>?_) fun fC=>?_
  ·obtain⟨kt,off,cells,e,rfl,gD,fN⟩:=db I;obtain⟨v,ar,cg⟩:=fN i I;have gD:=bS _ _ gD;refine aa 0x8738124d9d5f57 ?_;refine W.aa0 rfl rfl rfl rfl rfl rfl rfl (bl:=jc) (c2:=[_]) (.refl _) (hh i v jc cb I cg bS cw) ?_ ?_
   rotate_left 1
   ·exact fun bk m' fe cq ao=>⟨_,rfl,.inl ⟨rfl,.inr ⟨_,_,rfl,lf _ _,bS.trans cq,ao⟩⟩⟩
   rintro w eA de a9 ⟨t,rfl,wq,nc⟩;refine aa 0x5f11 ?_;refine If (fun dZ=>?_) fun dZ=>?_
   ·refine aa 0x357 ?_;first
      |exact LE (m':=eA) ⟨bS.trans a9,.inr (nc (by simpa using dZ))⟩ (hs:=lf _ _)
      |exact LE (m':=jc) ⟨bS,.inl cw⟩ (hs:=lf _ _)
   ·refine aa 0x3011e757 ?_;refine eH ⟨i+1,eA,de⟩ ?_;exact⟨I,bS.trans a9,wq (by simpa using dZ)⟩
  ·obtain rfl:i=n:=I
   refine aa 0x357 ?_;first
    |exact LE (m':=eA) ⟨bS.trans a9,.inr (nc (by simpa using dZ))⟩ (hs:=lf _ _)
    |exact LE (m':=jc) ⟨bS,.inl cw⟩ (hs:=lf _ _)
theorem Zr{b:Option Addr}{n c:Nat}(ly:addrEq b b=true):
 Fn (aT Q g0) 32 [.slice b n c] [] J (fun w m' ae=>∃a7,w=.func (.func 68) #[] #[.pointer (some ⟨a7,0,none⟩)]/\m'=[(a7,.row [.slice b n c] 24)]/\J=ae):=by
 refine Fn.b8 (b7 Tryz.func32) rfl rfl fun H=>?_;refine rg ?_;refine gZ fun a7=>?_;refine aa 0xd5f0296702 ?_;refine oi ?_;exact⟨a7,rfl,rfl,rfl⟩
theorem aoF{om:Nat->aO->af->Prop}{uo:aO->af->Prop}{e9:List PanicEntry->aO->af->Prop}{G:Nat->Value->Prop}{bA a7 n c:Nat}{b:Option Addr}{w6:aO}(az:n<9223372036854775807)
 (db:0<n->∃kt off cells e,b=some ⟨kt,off,none⟩/\J kt=some (cells,e)/\∀i:Nat,i<n->∃v,nth cells (off+(i:Int).toNat*1)=some v/\G i v)(aN:om 0 w6 J)
 (hh:∀i v m cb,i<n->G i v->J.le cb->om i m cb->sX (aT Q g0) bA [v] m cb (Zc om uo i) e9):
 lb (aT Q g0) 86 [.func (.yield bA) #[] #[],.pointer (some ⟨a7,0,none⟩)] ((a7,.row [.slice b n c] 22)::w6) J (fun w m' ae=>J.le ae/\(om n m' ae\/uo m' ae)) (fun bk m' ae=>J.le ae/\e9 bk m' ae):=by
 refine lb.b8 (b7 Tryz.func86) rfl rfl fun H=>?_;refine aa 0xbeaf809539 ?_;refine aB.mN (m':=w6++[(a7,.row [.slice b n c] 22)]) (vH _ _) ?_;refine c8 [(7,.int .i64 ((0):Int)),(0,_),(5,_),(6,_)] ?_;refine a' ?_;refine' aB.bA (fun(bE:Nat×aO×af)=>match bE with|(i,jc,cb)=>⟨[(7,.int .i64 (i:Int))],jc++[(a7,.row [.slice b n c] 22)],cb,i<=n/\J.le cb/\om i jc cb,n -i⟩) ⟨0,w6,J⟩ ?hs ?bb
 case hs=>exact⟨df _,af.le.refl _,aN⟩
 case bb=>
  rintro⟨i,jc,cb⟩ hinv;try simp only at hinv
  obtain⟨ak,bS,cw⟩:=hinv;refine aa 0xbe099 ?_;refine If (fun fC=>?_) fun fC=>?_
  ·obtain⟨kt,off,cells,e,rfl,gD,fN⟩:=db I;obtain⟨v,ar,cg⟩:=fN i I;have gD:=bS _ _ gD;refine aa 0x8738124d9d5f57 ?_;refine W.aa0 rfl rfl rfl rfl rfl rfl rfl (bl:=jc) (c2:=[_]) (.refl _) (hh i v jc cb I cg bS cw) ?_ ?_
   rotate_left 1
   ·exact fun bk m' fe cq ao=>⟨_,rfl,.inl ⟨rfl,.inr ⟨_,_,rfl,lf _ _,bS.trans cq,ao⟩⟩⟩
   rintro w eA de a9 ⟨t,rfl,wq,nc⟩;refine aa 0x5f11 ?_;refine If (fun dZ=>?_) fun dZ=>?_
   ·refine aa 0x357 ?_;first
      |exact LE (m':=eA) ⟨bS.trans a9,.inr (nc (by simpa using dZ))⟩ (hs:=lf _ _)
      |exact LE (m':=jc) ⟨bS,.inl cw⟩ (hs:=lf _ _)
   ·refine aa 0x3011e757 ?_;refine eH ⟨i+1,eA,de⟩ ?_;exact⟨I,bS.trans a9,wq (by simpa using dZ)⟩
  ·obtain rfl:i=n:=I
   refine aa 0x357 ?_;first
    |exact LE (m':=eA) ⟨bS.trans a9,.inr (nc (by simpa using dZ))⟩ (hs:=lf _ _)
    |exact LE (m':=jc) ⟨bS,.inl cw⟩ (hs:=lf _ _)
theorem aoG{b:Option Addr}{n c:Nat}(ly:addrEq b b=true):
 Fn (aT Q g0) 54 [.slice b n c] [] J (fun w m' ae=>∃a7,w=.func (.func 86) #[] #[.pointer (some ⟨a7,0,none⟩)]/\m'=[(a7,.row [.slice b n c] 22)]/\J=ae):=by
 refine Fn.b8 (b7 Tryz.func54) rfl rfl fun H=>?_;refine rg ?_;refine gZ fun a7=>?_;refine aa 0xd5f0296702 ?_;refine oi ?_;exact⟨a7,rfl,rfl,rfl⟩
end
end
end Go.Opn
set_option maxHeartbeats 4000000
namespace Go.Opn
noncomputable section
open Go.Cre Go.RowKit Go.Proofs
theorem Fn.K3{K:dy}{J:af}{f:FuncId}{fn:Func}{args:List Value}{v:Value}(aA:K.e5.get f=some fn)(ai:fn.body=none)(ao:args.all plain=true)(he:e0 K.P (callFunc f args.toArray)=some (.value v))(ar:plain v=true):Fn K f args [] J (fun u m' ae=>u=v/\m'=[]/\J=ae):=by
 intro H av;refine⟨v,H,J,[],iS.b8 K.cw gd j2 (bd:=.run) ?_,av,rfl,rfl,rfl⟩;unfold rS;rw[aA];show Et K.P _ f fn args false .run H fn.body=_;rw[ai];show pT .run (zT K.P fn f args H)=_;unfold zT;rw[ao,he];simp only[b4,NG,ar];rfl
theorem aci(x y:Nat):e0 im (callFunc 124 #[.int .u64 (x:Int),.int .u64 (y:Int),.int .u64 0])=some (.value (.tuple #[.int .u64 (((x+y+0) % 2 ^ 64:Nat):Int),.int .u64 (((x+y+0) / 2 ^ 64:Nat):Int)])):=by kernel_rfl
theorem apN(x y:Nat):e0 im (callFunc 158 #[.int .u64 (x:Int),.int .u64 (y:Int),.int .u64 0])=some (.value (.tuple #[.int .u64 (((x+2 ^ 64 -y -0) % 2 ^ 64:Nat):Int),.int .u64 ((if x<y+0 then 1 else 0:Nat):Int)])):=by kernel_rfl
theorem acj(x y:Nat):e0 im (callFunc 124 #[.int .u64 (x:Int),.int .u64 (y:Int),.int .u64 1])=some (.value (.tuple #[.int .u64 (((x+y+1) % 2 ^ 64:Nat):Int),.int .u64 (((x+y+1) / 2 ^ 64:Nat):Int)])):=by kernel_rfl
theorem apO(x y:Nat):e0 im (callFunc 158 #[.int .u64 (x:Int),.int .u64 (y:Int),.int .u64 1])=some (.value (.tuple #[.int .u64 (((x+2 ^ 64 -y -1) % 2 ^ 64:Nat):Int),.int .u64 ((if x<y+1 then 1 else 0:Nat):Int)])):=by kernel_rfl
section
variable {Q:cZ Tryz.prog}{g0:Nat}{J:af}
theorem vO{x y c:Nat}(aD:c<=1):Fn (aT Q g0) 124 [.int .u64 (x:Int),.int .u64 (y:Int),.int .u64 (c:Int)] [] J (fun u m' ae=>u=.tuple #[.int .u64 (((x+y+c) % 18446744073709551616:Nat):Int),.int .u64 (((x+y+c) / 18446744073709551616:Nat):Int)]/\m'=[]/\J=ae):=by
 obtain rfl|rfl:c=0\/c=1:=I
 ·exact Fn.K3 (b7 Tryz.func124) rfl rfl (aci x y) rfl
 ·exact Fn.K3 (b7 Tryz.func124) rfl rfl (acj x y) rfl
theorem Lj{x y c:Nat}(aD:c<=1):Fn (aT Q g0) 158 [.int .u64 (x:Int),.int .u64 (y:Int),.int .u64 (c:Int)] [] J (fun u m' ae=>u=.tuple #[.int .u64 (((x+18446744073709551616 -y -c) % 18446744073709551616:Nat):Int),.int .u64 ((if x<y+c then 1 else 0:Nat):Int)]/\m'=[]/\J=ae):=by
 obtain rfl|rfl:c=0\/c=1:=I
 ·exact Fn.K3 (b7 Tryz.func158) rfl rfl (apN x y) rfl
 ·exact Fn.K3 (b7 Tryz.func158) rfl rfl (apO x y) rfl
end
end
end Go.Opn
namespace Go.Opn
noncomputable section
structure ui (β P cS V bU u1 bq v1 v0:Nat):Prop where
 u:∃l,cS=((bU*β+u1)*β+bq)*P+l/\l<P
 v:∃l,V=(v1*β+v0)*P+l/\l<P
theorem ui.start{β P cS V bU u1 bq v1 v0 g:Nat}(h:ui β P cS V bU u1 bq v1 v0)(yy:bq<β)(ax:bU*β+u1<(g+1)*v1):cS<(g+1)*V:=by
 obtain⟨ul,rfl,u2⟩:=h.u
 obtain⟨Bp,rfl,lQ⟩:=h.v
 have ab:(bU*β+u1+1)*β<=(g+1)*v1*β:=eK _ ax
 have ad:(bU*β+u1)*β+bq+1<=(g+1)*(v1*β+v0):=by
  rw[cH,<-e4]
  rw[cR] at ab
  omega
 have aL:((bU*β+u1)*β+bq+1)*P<=(g+1)*(v1*β+v0)*P:=eK _ ad
 rw[cR _ 1 P,h'] at aL
 rw[cH (g+1),<-e4]
 have:0<=(g+1)*Bp:=df _
 omega
theorem ui.more{β P cS V bU u1 bq v1 v0 g r:Nat}(h:ui β P cS V bU u1 bq v1 v0)(ax:g*v1+r=bU*β+u1)(aJ:r*β+bq<g*v0):cS<g*V:=by
 obtain⟨ul,rfl,u2⟩:=h.u
 obtain⟨Bp,rfl,lQ⟩:=h.v
 have ad:(bU*β+u1)*β+bq+1<=g*(v1*β+v0):=by
  rw[cH,<-e4,<-ax,cR]
  omega
 have aL:((bU*β+u1)*β+bq+1)*P<=g*(v1*β+v0)*P:=eK _ ad
 rw[cR _ 1 P,h'] at aL
 rw[cH g,<-e4]
 have:0<=g*Bp:=df _
 omega
theorem ui.less{β P cS V bU u1 bq v1 v0 g r:Nat}(h:ui β P cS V bU u1 bq v1 v0)(ax:g*v1+r=bU*β+u1)(aJ:g*v0<=r*β+bq)(iW:g<=β)(ai:0<β)(ar:0<v1):g*V<cS+V:=by
 obtain⟨ul,rfl,u2⟩:=h.u
 obtain⟨Bp,rfl,lQ⟩:=h.v
 have ad:g*(v1*β+v0)<=(bU*β+u1)*β+bq:=by
  rw[cH,<-e4,<-ax,cR]
  omega
 have aL:g*(v1*β+v0)*P<=((bU*β+u1)*β+bq)*P:=eK _ ad
 have a6:g*Bp<=β*Bp:=eK _ iW
 have fb:β*Bp<β*P:=Md lQ ai
 have fX:β*P<=(v1*β+v0)*P:=eK _ (by
  have:1*β<=v1*β:=eK _ ar
  omega)
 rw[cH g,<-e4]
 omega
theorem xm{cS V g:Nat}(ab:g*V<=cS)(ad:cS<(g+1)*V):cS / V=g/\cS % V=cS -g*V:=by
 have jo:0<V:=uk fun h=>by rw[h,jk] at ad;omega
 have e:cS / V=g:=by
  refine S' ?_ ?_
  ·exact Nat.lt_succ_iff.1 ((mB jo).2 ad)
  ·exact(Is jo).2 ab
 refine⟨e,?_⟩
 have:=lI cS V
 rw[e,dp] at this
 omega
end
end Go.Opn

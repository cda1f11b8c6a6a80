/- A part of the proof of SampleParts. -/
import Derived.Test.YtdbhjgpppmkagaaGreatCaq
set_option linter.unusedVariables false
set_option linter.unusedSimpArgs false
namespace Go.Cre
noncomputable section
open Go.RowKit
open Classical
structure db (P:Program) where
 ok:(Nat->Prop)->World->Prop
 up:∀B w0 hU ib,ok B w0->(∀k,B k->hU k)->Kept B w0 ib->ok hU ib
def o7 (c:Code)(S:aQ)(H:ao)(r:Exit×aQ×ao):Code->aQ->ao->Option (Exit×aQ×ao):=fun b1 aO H'=>if b1=c/\aO=S/\H'=H then some r else none
def mL (f:FuncId)(args:List Value)(H:ao)(r:Ending×ao):eS:=fun dj cD H'=>if dj=f/\cD=args/\H'=H then some r else none
def dM{P:Program}(Q:db P)(c:Code)(S:aQ)(H:ao)(e:Exit)(aO:aQ)(H':ao):Prop:=∀B w0,Q.ok B w0->qJ P B w0 (o7 c S H (e,aO,H'))
def o0{P:Program}(Q:db P)(f:FuncId)(args:List Value)(H:ao)(e:Ending)(H':ao):Prop:=∀B w0,Q.ok B w0->o1 P B w0 (mL f args H (e,H'))
def tt {P:Program}(Q:db P)(pick:Code->aQ->ao->Option (Exit×aQ×ao)):Code->aQ->ao->Option (Exit×aQ×ao):=fun c S H=>match pick c S H with
 |some (e,aO,H')=>if dM Q c S H e aO H' then some (e,aO,H') else none
 |none=>none
def j' {P:Program}(Q:db P)(pick:eS):eS:=fun f args H=>match pick f args H with
 |some (e,H')=>if o0 Q f args H e H' then some (e,H') else none
 |none=>none
section
variable {P:Program}{Q:db P}{B:Nat->Prop}{w0:World}
theorem Hc(pick:Code->aQ->ao->Option (Exit×aQ×ao))(hO:Q.ok B w0):qJ P B w0 (tt Q pick):=by
 intro c S H e aO H' he;unfold tt at he;split at he
 ·split at he
  ·rename_i gB;simp only[b6,da] at he;obtain⟨rfl,rfl,rfl⟩:=he;exact gB B w0 hO c S H _ _ _ (by unfold o7;rw[aF ⟨rfl,rfl,rfl⟩])
  ·cases he
 ·cases he
theorem KP(pick:eS)(hO:Q.ok B w0):o1 P B w0 (j' Q pick):=by
 intro f args H e H' he;unfold j' at he;split at he
 ·split at he
  ·rename_i gB;simp only[b6,da] at he;obtain⟨rfl,rfl⟩:=he;exact gB B w0 hO f args H _ _ (by unfold mL;rw[aF ⟨rfl,rfl,rfl⟩])
  ·cases he
 ·cases he
def hj {P:Program}(Q:db P)(gQ:Code->aQ->ao->Option (Exit×aQ×ao))(bc:eS):fY:=
 ⟨tt Q gQ,fun f args b0 b8 H=>if b0=true then none else match j' Q bc f args H with|some (e,H')=>some (e,b8,H')|none=>none⟩
theorem JV(gQ:Code->aQ->ao->Option (Exit×aQ×ao))(bc:eS):(hj Q gQ bc).call=j' Q bc:=by
 funext f args H
 unfold fY.call hj;simp only[yl,xA];cases j' Q bc f args H with
 |none=>rfl
 |some p=>rfl
theorem dM.vX(nS:P.follows .mixedOrders=true){c:Code}{S aO:aQ}{H H':ao}{e:Exit}(gQ:Code->aQ->ao->Option (Exit×aQ×ao))(bc:eS)(h:Hi P (hj Q gQ bc) c S H=some (e,aO,H')):dM Q c S H e aO H':=by
 intro B w0 hO;have iL:∀(hU:Nat->Prop) (ib:World),(∀k,B k->hU k)->Kept B w0 ib->Q.ok hU ib:=fun hU ib a b=>Q.up B w0 hU ib hO a b;have av:∀(hU:Nat->Prop) (ib:World),Q.ok hU ib->qJ P hU ib (hj Q gQ bc).code:=fun hU ib q=>Hc gQ q;have aH:∀(hU:Nat->Prop) (ib:World),Q.ok hU ib->o1 P hU ib (hj Q gQ bc).call:=fun hU ib q=>by rw[JV];exact KP bc q
 have al:=RE (P:=P) (B:=B) (w0:=w0) (E:=hj Q gQ bc) nS (av B w0 hO) (fun hU ib a b=>aH hU ib (iL hU ib a b)) (fun hU ib a b=>JL (av hU ib (iL hU ib a b))) (VA (aH B w0 hO));intro bx ba H1 aD P6 Py he;unfold o7 at he;split at he
 ·rename_i q;obtain⟨rfl,rfl,rfl⟩:=q;simp only[b6,da] at he;obtain⟨rfl,rfl,rfl⟩:=he;exact al _ _ _ _ _ _ h
 ·cases he
theorem KU{c:Code}{S aO:aQ}{H H':ao}{e:Exit}(h:dM Q c S H e aO H'){gQ:Code->aQ->ao->Option (Exit×aQ×ao)}(au:gQ c S H=some (e,aO,H')):tt Q gQ c S H=some (e,aO,H'):=by
 unfold tt;rw[au];simp only;rw[aF h]
theorem AK{f:FuncId}{args:List Value}{H H':ao}{e:Ending}(h:o0 Q f args H e H'){bc:eS}(au:bc f args H=some (e,H')):j' Q bc f args H=some (e,H'):=by
 unfold j';rw[au];simp only;rw[aF h]
def jz:Code->aQ->ao->Option (Exit×aQ×ao):=fun _ _ _=>none
def oK:eS:=fun _ _ _=>none
def N2 (bx:Code)(ba:aQ)(H1:ao)(cO:Exit×aQ×ao)(bT:Code)(gq:aQ)(bZ:ao)(dI:Exit×aQ×ao):Code->aQ->ao->Option (Exit×aQ×ao):=fun c S H=>
 if c=bx/\S=ba/\H=H1 then some cO else if c=bT/\S=gq/\H=bZ then some dI else none
theorem dM.skip(nS:P.follows .mixedOrders=true){S:aQ}{H:ao}:dM Q .skip S H .normal S H:=dM.vX nS jz oK rfl
theorem dM.ret(nS:P.follows .mixedOrders=true){S:aQ}{H:ao}:dM Q .ret S H .ret S H:=dM.vX nS jz oK rfl
theorem dM.exit(nS:P.follows .mixedOrders=true){S:aQ}{H:ao}{id:Nat}:dM Q (.exit id) S H (.exit id) S H:=dM.vX nS jz oK rfl
theorem dM.mk{c:Code}{S aO:aQ}{H H':ao}{e:Exit}(h:∀B w0,Q.ok B w0->∀μ w fr tmps ds cs k it,bR P B w0 μ H w->hM μ S fr tmps ds cs->wC c it->lk P B w0 μ H S fr cs (lone (bG fr tmps ds (it::k)) cs w) k aO H' e):dM Q c S H e aO H':=by
 intro B w0 hO bx ba H1 aD P6 Py he;unfold o7 at he;split at he
 ·rename_i q;obtain⟨rfl,rfl,rfl⟩:=q;simp only[b6,da] at he;obtain⟨rfl,rfl,rfl⟩:=he;exact h B w0 hO
 ·cases he
theorem dM.use{c:Code}{S aO:aQ}{H H':ao}{e:Exit}(h:dM Q c S H e aO H')(hO:Q.ok B w0){μ:bH}{w:World}{fr:Frame}{tmps:Array Value}{ds:List Deferred}{cs:List Frame}{k:List Item}{it:Item}(gA:bR P B w0 μ H w)(fz:hM μ S fr tmps ds cs)(al:wC c it):
 lk P B w0 μ H S fr cs (lone (bG fr tmps ds (it::k)) cs w) k aO H' e:=h B w0 hO c S H e aO H' (by unfold o7;rw[aF ⟨rfl,rfl,rfl⟩]) μ w fr tmps ds cs k it gA fz al
theorem wC.plain{c:Code}{it:Item}(h:wC c it)(aM:∀b1,c≠.loop b1):it=.code c:=by
 rcases h with q|⟨b1,q,_⟩
 ·exact q
 ·exact absurd q (aM b1)
theorem dM.seq{a b:Code}{S ba gq:aQ}{H H1 bZ:ao}{e:Exit}(aa:dM Q a S H .normal ba H1)(ab:dM Q b ba H1 e gq bZ):dM Q (.seq a b) S H e gq bZ:=by
 refine .mk fun B w0 hO μ w fr tmps ds cs k it gA fz al=>?_;obtain rfl:=al.plain (fun _ q=>by cases q);exact((aa.use (k:=.code b::k) hO gA fz (.inl rfl)).bind fun e' d' t1 d1 gv lb=>ab.use hO lb.h lb.f (.inl rfl)).steps (.one OD)
theorem dM.FW{a b:Code}{S ba:aQ}{H H1:ao}{e:Exit}(aa:dM Q a S H e ba H1)(aM:e≠.normal):dM Q (.seq a b) S H e ba H1:=by
 refine .mk fun B w0 hO μ w fr tmps ds cs k it gA fz al=>?_;obtain rfl:=al.plain (fun _ q=>by cases q);exact((aa.use (k:=.code b::k) hO gA fz (.inl rfl)).steps (.one OD)).pass (fun id _=>rfl) aM
theorem wC.loop{c:Code}{it:Item}(h:wC (.loop c) it){fr:Frame}{tmps:Array Value}{ds:List Deferred}{cs:List Frame}{k:List Item}{w:World}:step P (lone (bG fr tmps ds (it::k)) cs w)=.next (lone (bG fr tmps ds (.code c::.inLoop c::k)) cs w):=by
 rcases h with rfl|⟨b1,q,rfl⟩
 ·exact Wm
 ·injection q with q;subst q;exact Wl
theorem dM.Uk{c:Code}{S ba gq:aQ}{H H1 bZ:ao}{e:Exit}(aa:dM Q c S H .normal ba H1)(ab:dM Q (.loop c) ba H1 e gq bZ):dM Q (.loop c) S H e gq bZ:=by
 refine .mk fun B w0 hO μ w fr tmps ds cs k it gA fz al=>?_;exact((aa.use (k:=.inLoop c::k) hO gA fz (.inl rfl)).bind fun e' d' t1 d1 gv lb=>ab.use hO lb.h lb.f (.inr ⟨c,rfl,rfl⟩)).steps (.one al.loop)
theorem dM.uf{c:Code}{S ba:aQ}{H H1:ao}{e:Exit}(aa:dM Q c S H e ba H1)(aM:e≠.normal):dM Q (.loop c) S H e ba H1:=by
 refine .mk fun B w0 hO μ w fr tmps ds cs k it gA fz al=>?_;exact((aa.use (k:=.inLoop c::k) hO gA fz (.inl rfl)).steps (.one al.loop)).pass (fun id _=>rfl) aM
theorem Hb{c:Code}{S aO:aQ}{H H':ao}{e:Exit}(h:dM Q c S H e aO H'):tt Q (o7 c S H (e,aO,H')) c S H=some (e,aO,H'):=KU h (by unfold o7;rw[aF ⟨rfl,rfl,rfl⟩])
theorem dM.cond(nS:P.follows .mixedOrders=true){x:Operand}{a b:Code}{t:Bool}{S aO:aQ}{H H':ao}{e:Exit}(I:a6 S.T H x=some (.bool t))(h:dM Q (if t=true then a else b) S H e aO H'):dM Q (.cond x a b) S H e aO H':=by
 cases t with
 |true=>
  refine dM.vX nS (o7 a S H (e,aO,H')) oK ?_;show G3 _ S H a b (a6 S.T H x)=_;rw[I];exact Hb h
 |false=>
  refine dM.vX nS (o7 b S H (e,aO,H')) oK ?_;show G3 _ S H a b (a6 S.T H x)=_;rw[I];exact Hb h
theorem dM.block(nS:P.follows .mixedOrders=true){id:Nat}{c:Code}{S aO:aQ}{H H':ao}{e:Exit}(h:dM Q c S H e aO H'):dM Q (.block id c) S H (match e with|.exit j=>if j=id then .normal else .exit j|e=>e) aO H':=by
 refine dM.vX nS (o7 c S H (e,aO,H')) oK ?_;show KM id (tt Q (o7 c S H (e,aO,H')) c S H)=_;rw[Hb h];cases e with
 |exit j=>
  show(bif Nat.beq j id then some (Exit.normal,aO,H') else some (Exit.exit j,aO,H'))=_;by_cases aU:j=id
  ·subst aU;simp
  ·have:Nat.beq j id=false:=by
    cases q:Nat.beq j id
    ·rfl
    ·exact absurd (eK q) aU
   rw[this,dN];simp[aU]
 |_=>rfl
theorem Xt(gQ:Code->aQ->ao->Option (Exit×aQ×ao))(bc:eS):wq P B w0 (hj Q gQ bc).body:=by
 intro f args b8 H e my H' he;unfold hj at he;simp at he
theorem o0.dw{gI:aX Func}(dC:uP P gI){f:FuncId}{args:List Value}{H H':ao}{e:Ending}{b8:FrameMode}(gQ:Code->aQ->ao->Option (Exit×aQ×ao))(bc:eS)(h:w3 P gI (hj Q gQ bc) f args false .run H=some (e,b8,H')):o0 Q f args H e H':=by
 intro B w0 hO f1 Yn H1 aD Py he;unfold mL at he;split at he
 ·rename_i q;obtain⟨rfl,rfl,rfl⟩:=q;simp only[b6,da] at he;obtain⟨rfl,rfl⟩:=he;exact RB (E:=hj Q gQ bc) dC (Hc gQ hO) (Xt gQ bc) f1 Yn H1 _ _ (by unfold fY.call;simp only;rw[h])
 ·cases he
theorem o0.run{gI:aX Func}(dC:uP P gI){f:FuncId}{fn:Func}{c:Code}{args:List Value}{T:aX Value}{H H1 H':ao}{ba:aQ}{x:Exit}{e:Ending}{b8:FrameMode}(aw:gI.get f=some fn)(ai:fn.body=some c)(aW:qT args 0 (blank fn.ntmps)=some T)
 (av:dM Q c ⟨T,fn.ntmps,[],false,.run,none⟩ H x ba H1)(he:GZ P (hj Q (o7 c ⟨T,fn.ntmps,[],false,.run,none⟩ H (x,ba,H1)) oK) fn (some (x,ba,H1))=some (e,b8,H')):o0 Q f args H e H':=by
 refine o0.dw dC (o7 c ⟨T,fn.ntmps,[],false,.run,none⟩ H (x,ba,H1)) oK (b8:=b8) ?_;unfold w3;rw[aw];show QM P _ f fn args false .run H fn.body=_;rw[ai];show Kz P _ fn c false .run H (qT args 0 (blank fn.ntmps))=_;rw[aW];show GZ P _ fn (tt Q _ c ⟨T,fn.ntmps,[],false,.run,none⟩ H)=_;rw[Hb av];exact he
end
end
end Go.Cre
namespace Go.Cre
noncomputable section
open Go.RowKit
def aX.has{α:Type}(T:aX α)(n:Nat):Prop:=∀t,t<n->∃v,T.get t=some v
end
end Go.Cre
namespace Go.Opn
noncomputable section
open Go.Cre
open Go.RowKit
theorem aX.Ci{α:Type}(a:α):∀(T:aX α) (n:Nat),(∀m,m<n->∃v,T.get m=some v)->∃dP,aX.put a T n=some dP:=by
 intro T;induction T with
 |leaf=>
  intro n h;cases n with
  |zero=>exact⟨_,rfl⟩
  |succ n=>obtain⟨v,ap⟩:=h 0 (by omega);cases ap
 |node v l r vJ vK=>
  intro n h;cases n with
  |zero=>exact⟨_,rfl⟩
  |succ n=>
   rw[aX.Jg];by_cases aM:n % 2=0
   ·rw[aF aM];obtain⟨l',ay⟩:=vJ (n / 2) fun m hm=>by
     obtain⟨v',ap⟩:=h (2*m+1) (by omega);rw[aX.p1,aF (by omega),show 2*m / 2=m by omega] at ap;exact⟨v',ap⟩
    rw[ay];exact⟨_,rfl⟩
   ·rw[aq aM];obtain⟨b7,ax⟩:=vK (n / 2) fun m hm=>by
     obtain⟨v',ap⟩:=h (2*m+1+1) (by omega);rw[aX.p1,aq (by omega),show(2*m+1) / 2=m by omega] at ap;exact⟨v',ap⟩
    rw[ax];exact⟨_,rfl⟩
structure iJ (H:ao):Prop where
 here:∀a,a<H.af->∃b,H.mem.get a=some b
 gone:∀a,H.af<=a->H.mem.get a=none
 A1:∀f,f<H.cd->∃l,H.br.get f=some l
 DR:∀f,H.cd<=f->H.br.get f=none
 kc:H.bq<=H.af
theorem iJ.lt{H:ao}(h:iJ H){a:Nat}{b:fa}(g:H.mem.get a=some b):a<H.af:=by
 rcases jo a H.af with q|q
 ·exact q
 ·rw[h.gone a q] at g;cases g
theorem iJ.DV{H:ao}(h:iJ H){f:Nat}{l:List Nat}(g:H.br.get f=some l):f<H.cd:=by
 rcases jo f H.cd with q|q
 ·exact q
 ·rw[h.DR f q] at g;cases g
theorem iJ.new{H:ao}(h:iJ H)(b:fa):∃H1,H.new b=some (H.af,H1):=by
 obtain⟨mem,af,br,cd,bq⟩:=H;obtain⟨T,dK⟩:=aX.Ci b mem af h.here;refine⟨⟨T,af+1,br,cd,bq⟩,?_⟩;show ao.NE af br cd bq (aX.put b mem af)=_;rw[dK];rfl
theorem iJ.NH{H H1:ao}{b:fa}{id:Nat}(h:iJ H)(e:H.new b=some (id,H1)):iJ H1:=by
 obtain⟨_,a5,cC,e0,ch,js⟩:=ao.n1 e;refine⟨fun a aW=>?_,fun a aW=>?_,by rw[cC,e0];exact h.A1,by rw[cC,e0];exact h.DR,by have:=h.kc;omega⟩
 ·rw[js];split
  ·exact⟨_,rfl⟩
  ·exact h.here a (by omega)
 ·rw[js,aq (by omega)];exact h.gone a (by omega)
theorem iJ.upd{H:ao}(h:iJ H){a:Nat}(b:fa)(aW:a<H.af):∃H1,H.upd a b=some H1:=by
 obtain⟨mem,af,br,cd,bq⟩:=H;obtain⟨x,I⟩:=h.here a aW;obtain⟨T,dK⟩:=aX.FM (a:=b) I;refine⟨⟨T,af,br,cd,bq⟩,?_⟩;show ao.WG af br cd bq (aX.put b mem a)=_;rw[dK];rfl
theorem iJ.JD{H H1:ao}{b:fa}{a:Nat}(h:iJ H)(aW:a<H.af)(e:H.upd a b=some H1):iJ H1:=by
 obtain⟨aD,a5,cC,e0,ch⟩:=ao.pF e;refine⟨fun x I=>?_,fun x I=>?_,by rw[a5,cC];exact h.A1,by rw[a5,cC];exact h.DR,by have:=h.kc;omega⟩
 ·rw[ch];split
  ·exact⟨_,rfl⟩
  ·exact h.here x (by omega)
 ·rw[ch,aq (by omega)];exact h.gone x (by omega)
theorem iJ.uk{H:ao}(h:iJ H):∃H1,H.uk=some (H.cd,H1):=by
 obtain⟨mem,af,br,cd,bq⟩:=H;obtain⟨T,dK⟩:=aX.Ci [af] br cd h.A1;refine⟨⟨mem,af,T,cd+1,bq⟩,?_⟩;show ao.NF mem af cd bq (aX.put [af] br cd)=_;rw[dK];rfl
theorem iJ.af1{H H1:ao}{f:Nat}(h:iJ H)(e:H.uk=some (f,H1)):iJ H1:=by
 obtain⟨aD,a5,cC,e0,ch,js⟩:=ao.IR e;refine⟨by rw[a5,cC];exact h.here,by rw[a5,cC];exact h.gone,fun x I=>?_,fun x I=>?_,by have:=h.kc;omega⟩
 ·rw[js];split
  ·exact⟨_,rfl⟩
  ·exact h.A1 x (by omega)
 ·rw[js,aq (by omega)];exact h.DR x (by omega)
theorem iJ.qx{H:ao}(h:iJ H){f:Nat}(l:List Nat)(aw:f<H.cd):∃H1,H.qx f l=some H1:=by
 obtain⟨mem,af,br,cd,bq⟩:=H;obtain⟨x,I⟩:=h.A1 f aw;obtain⟨T,dK⟩:=aX.FM (a:=l) I;refine⟨⟨mem,af,T,cd,bq⟩,?_⟩;show ao.V3 mem af cd bq (aX.put l br f)=_;rw[dK];rfl
theorem iJ.Ov{H H1:ao}{f:Nat}{l:List Nat}(h:iJ H)(aw:f<H.cd)(e:H.qx f l=some H1):iJ H1:=by
 obtain⟨aD,a5,cC,e0,ch⟩:=ao.Cn e;refine⟨by rw[aD,a5];exact h.here,by rw[aD,a5];exact h.gone,fun x I=>?_,fun x I=>?_,by have:=h.kc;omega⟩
 ·rw[ch];split
  ·exact⟨_,rfl⟩
  ·exact h.A1 x (by omega)
 ·rw[ch,aq (by omega)];exact h.DR x (by omega)
structure eQ where
 ds:List Deferred
 cB:Option Nat
 b0:Bool
 b8:FrameMode
def Hg:eQ:=⟨[],none,false,.run⟩
structure b9 where
 n:Nat
 ds:eQ
 l:List (Nat×Value)
def look:List (Nat×Value)->Nat->Option Value
 |[],_=>none
 |(u,v)::l,t=>bif Nat.beq t u then some v else look l t
structure Sat (E:b9) (S:aQ):Prop where
 n:S.n=E.n
 ds:S.ds=E.ds.ds
 b0:S.b0=E.ds.b0
 b8:S.b8=E.ds.b8
 cB:S.cB=E.ds.cB
 has:S.T.has E.n
 get:∀t v,look E.l t=some v->S.T.get t=some v
def b9.put (E:b9):Option Tmp->Value->b9
 |none,_=>E
 |some d,v=>⟨E.n,E.ds,(d,v)::E.l⟩
def Rt (n:Nat):Option Tmp->Bool
 |none=>true
 |some d=>Nat.blt d n
theorem Sat.put{E:b9}{S:aQ}(h:Sat E S){dst:Option Tmp}(aS:Rt E.n dst=true)(v:Value):∃ba,S.put dst v=some ba/\Sat (E.put dst v) ba:=by
 cases dst with
 |none=>exact⟨S,rfl,h⟩
 |some d=>
  obtain⟨T,n,ds,b0,b8,cB⟩:=S;have aM:n=E.n:=h.n;have cP:d<E.n:=by simpa[Rt] using aS
  obtain⟨x,I⟩:=h.has d cP;obtain⟨dP,dK⟩:=aX.FM (a:=v) I;refine⟨⟨dP,n,ds,b0,b8,cB⟩,?_,h.n,h.ds,h.b0,h.b8,h.cB,fun t aN=>?_,fun t u hu=>?_⟩
  ·show Bool.rec (motive:=fun _=>Option aQ) none (aQ.rM n ds b0 b8 cB (aX.put v T d)) (Nat.ble (Nat.succ d) n)=_;have ai:Nat.ble (Nat.succ d) n=true:=kK (by rw[aM];exact cP);rw[ai,dK];rfl
  ·show ∃v,dP.get t=some v;rw[aX.get_put dK];split
   ·exact⟨_,rfl⟩
   ·exact h.has t aN
  ·show dP.get t=some u;rw[aX.get_put dK];have hu:(bif Nat.beq t d then some v else look E.l t)=some u:=hu;by_cases e:t=d
   ·subst e;rw[aF rfl];simpa using hu
   ·rw[aq e];have ai:Nat.beq t d=false:=by
     cases q:Nat.beq t d
     ·rfl
     ·exact absurd (eK q) e
    rw[ai,dN] at hu;exact h.get t u hu
theorem Sat.fy{E:b9}{S:aQ}(h:Sat E S){l:List (Nat×Value)}(ay:∀t v,look l t=some v->look E.l t=some v):Sat ⟨E.n,E.ds,l⟩ S:=
 ⟨h.n,h.ds,h.b0,h.b8,h.cB,h.has,fun t v q=>h.get t v (ay t v q)⟩
abbrev aA:=Nat->Option (List Value×TypeId)
def aA.le(J ag:aA):Prop:=∀a x,J a=some x->ag a=some x
theorem aA.le.refl(J:aA):J.le J:=fun _ _ h=>h
theorem aA.le.trans{J cN hs:aA}(h:J.le cN)(k:cN.le hs):J.le hs:=fun a x q=>k a x (h a x q)
inductive cI where
 |row (cells:List Value) (e:TypeId)
 |opn (cells:List Value) (e:TypeId) (rest:List Nat) (z:Nat)
 |map (es:List MapEntry) (clock:Nat)
 |loop (r:pI)
 |gh
def cI.at(F:Nat->Prop)(H:ao)(a:Nat):cI->Prop
 |.row cells e=>H.mem.get a=some (.row cells e false 0 0 false)
 |.opn cells e rest z=>∃f,F f/\H.mem.get a=some (.row cells e true f z false)/\H.br.get f=some (a::rest)
 |.map es clock=>H.mem.get a=some (.map es clock)
 |.loop r=>H.mem.get a=some (.loop r)
 |.gh=>H.mem.get a=some (.gh (some []))
def cI.rest:cI->List Nat
 |.opn _ _ r _=>r
 |_=>[]
def ids:List (Nat×cI)->List Nat
 |[]=>[]
 |(a,b)::m=>a::(b.rest++ids m)
theorem Iq:∀(m m':List (Nat×cI)),ids (m++m')=ids m++ids m':=by
 intro m m';induction m with
 |nil=>rfl
 |cons x m aG=>show x.1::(x.2.rest++ids (m++m'))=_;rw[aG];simp[ids]
theorem zC{a:Nat}:∀{m:List (Nat×cI)},a∈ids m↔∃x∈m,a=x.1\/a∈x.2.rest:=by
 intro m;induction m with
 |nil=>simp[ids]
 |cons x m aG=>
  show a∈x.1::(x.2.rest++ids m)↔_;rw[ft,lL,aG];constructor
  ·rintro(h|h|⟨y,aa,ab⟩)
   ·exact⟨x,.head _,.inl h⟩
   ·exact⟨x,.head _,.inr h⟩
   ·exact⟨y,.tail _ aa,ab⟩
  ·rintro⟨y,aa,ab⟩;rcases ft.1 aa with q|q
   ·subst q;rcases ab with ab|ab
    ·exact .inl ab
    ·exact .inr (.inl ab)
   ·exact .inr (.inr ⟨y,q,ab⟩)
theorem xz{a:Nat}{b:cI}{m:List (Nat×cI)}(h:(a,b)∈m):a∈ids m:=zC.2 ⟨_,h,.inl rfl⟩
theorem aeV{m m':List (Nat×cI)}(h:m'.Sublist m):(ids m').Sublist (ids m):=by
 induction h with
 |slnil=>exact bV _
 |cons x _ aG=>exact .cons _ (aG.trans (CZ _ _))
 |cons_cons x _ aG=>exact .cons_cons _ ((bV _).append aG)
theorem Ir{m m':List (Nat×cI)}(h:m.Perm m'):(ids m).Perm (ids m'):=by
 induction h with
 |nil=>exact .nil
 |cons x _ aG=>exact .cons _ (aG.append_left _)
 |swap x y l=>
  show(y.1::(y.2.rest++(x.1::(x.2.rest++ids l)))).Perm (x.1::(x.2.rest++(y.1::(y.2.rest++ids l))));have h:=jn (l₁:=y.1::y.2.rest) (l₂:=x.1::x.2.rest);have:=h.append_right (ids l);simpa using this
 |trans _ _ i1 i2=>exact i1.trans i2
theorem aeU{m:List (Nat×cI)}(h:(ids m).Nodup):(m.map Prod.fst).Nodup:=by
 refine List.Sublist.nodup ?_ h;clear h
 induction m with
 |nil=>exact bV _
 |cons x m aG=>exact .cons_cons _ (aG.trans (CZ _ _))
structure dO where
 X:Nat->Prop
 Y:Nat->Prop
 H0:ao
 Gr:aA
def dO.w6(B:dO)(f:Nat):Prop:=B.H0.cd<=f\/∃a r c e z s,B.H0.br.get f=some (a::r)/\B.H0.mem.get a=some (.row c e true f z s)/\B.Y a
theorem dO.RN{B:dO}{f:Nat}(h:¬B.w6 f):f<B.H0.cd:=Nat.lt_of_not_le fun q=>h (.inl q)
structure Inv (g0:Nat) (B:dO) (J:aA) (m:List (Nat×cI)) (H:ao):Prop where
 wf:iJ H
 bq:H.bq=g0
 af:B.H0.af<=H.af
 cd:B.H0.cd<=H.cd
 e7:∀a,a<B.H0.af->¬B.X a->H.mem.get a=B.H0.mem.get a
 lY:∀f,¬B.w6 f->H.br.get f=B.H0.br.get f
 fj:∀a c e,J a=some (c,e)->∃o f z s,H.mem.get a=some (.row c e o f z s)
 le:B.Gr.le J
 fresh:∀a x,B.Gr a=none->J a=some x->B.H0.af<=a\/B.X a
 own:∀a b,(a,b)∈m->b.at B.w6 H a/\(B.H0.af<=a\/B.X a)/\J a=none/\g0<=a
 opn:∀a b,(a,b)∈m->∀x∈b.rest,x<H.af/\(B.H0.af<=x\/B.X x)/\J x=none
 gD:(ids m).Nodup
theorem cI.QB{F:Nat->Prop}{H:ao}(w:iJ H){a:Nat}{b:cI}(h:b.at F H a):a<H.af:=by
 cases b with
 |row c e=>exact w.lt h
 |opn c e r z=>obtain⟨f,_,h,_⟩:=h;exact w.lt h
 |map es k=>exact w.lt h
 |loop r=>exact w.lt h
 |gh=>exact w.lt h
theorem cI.uT{F:Nat->Prop}{H H1:ao}{a:Nat}{b:cI}(h:b.at F H a)(hm:H1.mem.get a=H.mem.get a)(aw:∀f r,H.br.get f=some (a::r)->H1.br.get f=some (a::r)):b.at F H1 a:=by
 cases b with
 |row c e=>exact hm.trans h
 |opn c e r z=>obtain⟨f,bt,aa,ab⟩:=h;exact⟨f,bt,hm.trans aa,aw _ _ ab⟩
 |map es k=>exact hm.trans h
 |loop r=>exact hm.trans h
 |gh=>exact hm.trans h
section
variable {g0:Nat}{B:dO}{H:ao}{J:aA}{m m':List (Nat×cI)}
theorem Inv.lt(h:Inv g0 B J m H){a:Nat}{b:cI}(hm:(a,b)∈m):a<H.af:=cI.QB h.wf (h.own a b hm).1
theorem Inv.afB(h:Inv g0 B J m H){a:Nat}{x:List Value×TypeId}(aU:J a=some x):a<H.af:=by
 obtain⟨c,e⟩:=x;obtain⟨o,f,z,s,q⟩:=h.fj a c e aU;exact h.wf.lt q
theorem Inv.NK(h:Inv g0 B J m H):J H.af=none:=by
 cases q:J H.af with
 |none=>rfl
 |some x=>exact absurd (h.afB q) (C1 _)
theorem Inv.IE(h:Inv g0 B J m H){x:Nat}(I:x∈ids m):x<H.af:=by
 obtain⟨⟨a,b⟩,aa,ab⟩:=zC.1 I;rcases ab with ab|ab
 ·subst ab;exact h.lt aa
 ·exact(h.opn a b aa x ab).1
theorem Inv.UY(h:Inv g0 B J m H){x:Nat}(I:x∈ids m):B.H0.af<=x\/B.X x:=by
 obtain⟨⟨a,b⟩,aa,ab⟩:=zC.1 I;rcases ab with ab|ab
 ·subst ab;exact(h.own _ b aa).2.1
 ·exact(h.opn a b aa x ab).2.1
theorem Inv.af9(h:Inv g0 B J m H){x:Nat}(I:x∈ids m):J x=none:=by
 obtain⟨⟨a,b⟩,aa,ab⟩:=zC.1 I;rcases ab with ab|ab
 ·subst ab;exact(h.own _ b aa).2.2.1
 ·exact(h.opn a b aa x ab).2.2
theorem Inv.Lu(h:Inv g0 B J m H):g0<=H.af:=by have:=h.wf.kc;have:=h.bq;omega
theorem Inv.new(h:Inv g0 B J m H){H1:ao}{b:fa}{p:cI}(aD:H.new b=some (H.af,H1))(au:p.at B.w6 H1 H.af)(ax:p.rest=[]:=by rfl):Inv g0 B J ((H.af,p)::m) H1:=by
 obtain⟨_,dr,ki,qo,m0,lG⟩:=ao.n1 aD;refine⟨h.wf.NH aD,m0.trans h.bq,by have:=h.af;omega,by rw[qo];exact h.cd,fun a aW I=>?_,fun f aw=>by rw[ki];exact h.lY f aw,fun a c e aU=>?_,h.le,h.fresh,fun a b ai=>?_,fun a b ai x I=>?_,?_⟩
 ·rw[lG,aq (by have:=h.af;omega)];exact h.e7 a aW I
 ·obtain⟨o,f,z,s,q⟩:=h.fj a c e aU;exact⟨o,f,z,s,by rw[lG,aq (by have:=h.wf.lt q;omega)];exact q⟩
 ·rcases ft.1 ai with q|q
  ·injection q with aZ aR;subst aZ;subst aR
   exact⟨au,.inl h.af,h.NK,h.Lu⟩
  ·obtain⟨a',bd,bz,cM⟩:=h.own a b q;exact⟨cI.uT a' (by rw[lG,aq (by have:=h.lt q;omega)]) (fun f l aw=>by rw[ki];exact aw),bd,bz,cM⟩
 ·rcases ft.1 ai with q|q
  ·injection q with aZ aR;subst aZ;subst aR;rw[ax] at I;cases I
  ·obtain⟨a',bd,bz⟩:=h.opn a b q x I;exact⟨by omega,bd,bz⟩
 ·show(H.af::(p.rest++ids m)).Nodup;rw[ax,mB,r0];exact⟨fun q=>absurd (h.IE q) (C1 _),h.gD⟩
theorem Inv.alloc(h:Inv g0 B J m H)(cells:List Value)(e:TypeId):
 ∃H1,H.new (.row cells e false 0 0 false)=some (H.af,H1)/\Inv g0 B J ((H.af,.row cells e)::m) H1:=by
 obtain⟨H1,aD⟩:=h.wf.new (.row cells e false 0 0 false);obtain⟨_,dr,ki,qo,m0,lG⟩:=ao.n1 aD;exact⟨H1,aD,h.new aD (by show H1.mem.get H.af=_;rw[lG,aF rfl])⟩
theorem Inv.br(h:Inv g0 B J m H):∃H1,H.uk=some (H.cd,H1)/\Inv g0 B J m H1/\H1.af=H.af/\H1.br.get H.cd=some [H.af]/\B.H0.cd<=H.cd:=by
 obtain⟨H1,aD⟩:=h.wf.uk;obtain⟨_,dr,ki,qo,m0,lG⟩:=ao.IR aD;refine⟨H1,aD,⟨h.wf.af1 aD,m0.trans h.bq,by rw[dr];exact h.af,by have:=h.cd;omega,fun a aW I=>by rw[ki];exact h.e7 a aW I,fun f aw=>?_,fun a c e aU=>by rw[ki];exact h.fj a c e aU,h.le,h.fresh,fun a b ai=>?_,fun a b ai x I=>by rw[dr];exact h.opn a b ai x I,h.gD⟩,dr,by rw[lG,aF rfl],h.cd⟩
 ·rw[lG,aq (by have:=h.cd;have:=dO.RN aw;omega)];exact h.lY f aw
 ·obtain⟨a',bd,bz,cM⟩:=h.own a b ai;exact⟨cI.uT a' (by rw[ki]) (fun f l aw=>by rw[lG,aq (by have:=h.wf.DV aw;omega)];exact aw),bd,bz,cM⟩
theorem Inv.nq(h:Inv g0 B J m H)(cells:List Value)(e:TypeId):
 ∃H1,H.nq cells e false=some (H.af,H1)/\Inv g0 B J ((H.af,.opn cells e [] 0)::m) H1:=by
 obtain⟨H1,aD,aa,h4,f1,af5⟩:=h.br;obtain⟨bZ,a5⟩:=aa.wf.new (.row cells e true H.cd 0 false);obtain⟨_,dr,ki,qo,m0,lG⟩:=ao.n1 a5;refine⟨bZ,?_,?_⟩
 ·unfold ao.nq;rw[aD];simp only;rw[a5,h4]
 ·have:=aa.new (p:=.opn cells e [] 0) a5 ⟨H.cd,.inl af5,by rw[lG,aF rfl],by rw[ki,f1,h4]⟩;rwa [h4] at this
inductive dc:List (Nat×cI)->Nat->cI->cI->List (Nat×cI)->Prop
 |head (a:Nat) (b b':cI) (m:List (Nat×cI)):dc ((a,b)::m) a b b' ((a,b')::m)
 |tail (x:Nat×cI) {m m':List (Nat×cI)} {a:Nat} {b b':cI}:dc m a b b' m'->dc (x::m) a b b' (x::m')
theorem dc.mem{m m':List (Nat×cI)}{a:Nat}{b b':cI}(h:dc m a b b' m'):(a,b)∈m:=by
 induction h with
 |head=>exact .head _
 |tail _ _ aG=>exact .tail _ aG
theorem dc.Uq{m m':List (Nat×cI)}{a:Nat}{b b':cI}(h:dc m a b b' m')(aM:(m.map Prod.fst).Nodup):∀x c,(x,c)∈m'->(x=a/\c=b')\/(x≠a/\(x,c)∈m):=by
 induction h with
 |head a b b' m=>
  intro x c I;rw[k2,r0] at aM;rcases ft.1 I with q|q
  ·injection q with aZ aR;exact .inl ⟨aZ,aR⟩
  ·refine .inr ⟨fun e=>aM.1 ?_,.tail _ q⟩;subst e;exact m8.2 ⟨_,q,rfl⟩
 |tail y au aG=>
  intro x c I;rw[k2,r0] at aM;rcases ft.1 I with q|q
  ·refine .inr ⟨fun e=>aM.1 ?_,by rw[q];exact .head _⟩;have:y.1=x:=by rw[<-q]
   rw[this,e];exact m8.2 ⟨_,au.mem,rfl⟩
  ·rcases aG aM.2 x c q with r|⟨cO,dI⟩
   ·exact .inl r
   ·exact .inr ⟨cO,.tail _ dI⟩
theorem dc.ids{m m':List (Nat×cI)}{a:Nat}{b b':cI}(h:dc m a b b' m')(ax:b'.rest=[]):(ids m').Sublist (ids m):=by
 induction h with
 |head a b b' m=>show(a::(b'.rest++Opn.ids m)).Sublist (a::(b.rest++Opn.ids m));rw[ax];exact .cons_cons _ (CZ _ _)
 |tail x _ aG=>exact .cons_cons _ ((bV _).append (aG ax))
theorem Inv.upd(h:Inv g0 B J m H){a:Nat}{b p:cI}{c:fa}{H1:ao}(au:dc m a b p m')(aD:H.upd a c=some H1)(av:p.at B.w6 H1 a)(ax:p.rest=[]:=by rfl):Inv g0 B J m' H1:=by
 obtain⟨a',bd,bz,cM⟩:=h.own a _ au.mem;have dL:=aeU h.gD;have cP:=h.lt au.mem;obtain⟨b5,dr,ki,qo,m0⟩:=ao.pF aD;refine⟨h.wf.JD cP aD,qo.trans h.bq,by rw[b5];exact h.af,by rw[ki];exact h.cd,fun x I jS=>?_,fun f aw=>by rw[dr];exact h.lY f aw,fun x c e aU=>?_,h.le,h.fresh,fun x b ai=>?_,fun x b ai y ah=>?_,(au.ids ax).nodup h.gD⟩
 ·rw[m0,aq (fun q=>by subst q;rcases bd with q|q;·omega
                      ·exact jS q)]
  exact h.e7 x I jS
 ·obtain⟨o,f,z,s,q⟩:=h.fj x c e aU
  exact⟨o,f,z,s,by rw[m0,aq (fun r=>by subst r;rw[bz] at aU;cases aU)];exact q⟩
 ·rcases au.Uq dL x b ai with⟨rfl,rfl⟩|⟨aZ,aR⟩
  ·exact⟨av,bd,bz,cM⟩
  ·obtain⟨dZ,eJ,kV,mY⟩:=h.own x b aR
   exact⟨cI.uT dZ (by rw[m0,aq aZ]) (fun f l aw=>by rw[dr];exact aw),eJ,kV,mY⟩
 ·rcases au.Uq dL x b ai with⟨rfl,rfl⟩|⟨aZ,aR⟩
  ·rw[ax] at ah;cases ah
  ·rw[b5];exact h.opn x b aR y ah
theorem Inv.store{a:Nat}{cells cells':List Value}{e:TypeId}(h:Inv g0 B J m H)(au:dc m a (.row cells e) (.row cells' e) m'):
 ∃H1,H.upd a (.row cells' e false 0 0 false)=some H1/\Inv g0 B J m' H1:=by
 obtain⟨H1,aD⟩:=h.wf.upd (.row cells' e false 0 0 false) (h.lt au.mem);exact⟨H1,aD,h.upd au aD (by show H1.mem.get a=_;rw[(ao.pF aD).2.2.2.2,aF rfl])⟩
theorem Inv.sub(h:Inv g0 B J m H)(al:m'.Sublist m):Inv g0 B J m' H:=
 ⟨h.wf,h.bq,h.af,h.cd,h.e7,h.lY,h.fj,h.le,h.fresh,fun a b q=>h.own a b (al.subset q),fun a b q=>h.opn a b (al.subset q),(aeV al).nodup h.gD⟩
def aA.add(J:aA)(a:Nat)(x:List Value×TypeId):aA:=fun i=>if i=a then some x else J i
theorem aA.mf(J:aA)(a:Nat)(x:List Value×TypeId):(J.add a x) a=some x:=aF rfl
theorem aA.Qg{J:aA}{a:Nat}{x:List Value×TypeId}(h:J a=none):J.le (J.add a x):=fun i y q=>by
 unfold aA.add;split
 ·rename_i e;subst e;rw[h] at q;cases q
 ·exact q
def cI.rowOf:cI->Option (List Value×TypeId)
 |.row c e=>some (c,e)
 |.opn c e _ _=>some (c,e)
 |.map _ _=>none
 |.loop _=>none
 |.gh=>none
theorem Inv.lH{a:Nat}{b:cI}{x:List Value×TypeId}(h:Inv g0 B J ((a,b)::m) H)(I:b.rowOf=some x):Inv g0 B (J.add a x) m H/\J.le (J.add a x):=by
 obtain⟨a',bd,bz,cM⟩:=h.own a b (.head _);have dL:=h.gD;rw[show ids ((a,b)::m)=a::(b.rest++ids m) from rfl,r0,lL] at dL;have hle:=aA.Qg (x:=x) bz;refine⟨⟨h.wf,h.bq,h.af,h.cd,h.e7,h.lY,fun i c e aU=>?_,h.le.trans hle,fun i y q ah=>?_,fun i p au=>?_,fun i p au y ah=>?_,(CZ _ _).nodup dL.2⟩,hle⟩
 ·unfold aA.add at aU;split at aU
  ·rename_i q;subst q;injection aU with aU;subst aU
   cases b with
   |row b1 bn=>injection I with I;injection I with aa ab;subst aa;subst ab;exact⟨_,_,_,_,a'⟩
   |opn b1 bn r z=>injection I with I;injection I with aa ab;subst aa;subst ab;obtain⟨f,_,k,_⟩:=a';exact⟨_,_,_,_,k⟩
   |map es k=>cases I
   |loop r=>cases I
   |gh=>cases I
  ·exact h.fj i c e aU
 ·unfold aA.add at ah;split at ah
  ·rename_i e;subst e;exact bd
  ·exact h.fresh i y q ah
 ·obtain⟨dZ,eJ,kV,mY⟩:=h.own i p (.tail _ au);refine⟨dZ,eJ,?_,mY⟩;unfold aA.add;rw[aq]
  ·exact kV
  ·intro e;subst e;exact dL.1 (.inr (xz au))
 ·obtain⟨dZ,eJ,kV⟩:=h.opn i p (.tail _ au) y ah;refine⟨dZ,eJ,?_⟩;unfold aA.add;rw[aq]
  ·exact kV
  ·intro e;subst e;exact dL.1 (.inr (zC.2 ⟨_,au,.inr ah⟩))
end
end
end Go.Opn

/- A part of the proof of TableTurns. -/
import Derived.Test.YtlgjlbpafcifoaaGreatDoorCan
set_option linter.unusedVariables false
set_option linter.unusedSimpArgs false
namespace Go.Opn
noncomputable section
open Go.Cre Go.RowKit
open Classical
section
variable {K:dy}{B:c5}{o:Oper}{n:Nat}{ds:dJ}{l:List (Nat×Value)}{m m':aO}{J:af}{e7:b0->aO->af->Prop}{d:Nat}{cd:Exit->b0->aO->af->Prop}
def lb(K:dy)(f:FuncId)(args:List Value)(bl:aO)(J:af)(gT:Value->aO->af->Prop)(e9:List PanicEntry->aO->af->Prop):Prop:=
 ∀H,Inv K.g0 (hS bl H J) J bl H->∃H' ae m',Inv K.g0 (hS bl H J) ae m' H'/\((∃v,iS K.Q f args H (.returned v) H'/\gT v m' ae)\/∃bk,iS K.Q f args H (.panicked bk) H'/\e9 bk m' ae)
def sX(K:dy)(bA:Nat)(args:List Value)(bl:aO)(J:af)(gT:Value->aO->af->Prop)(e9:List PanicEntry->aO->af->Prop):Prop:=
 ∀H,Inv K.g0 (hS bl H J) J bl H->∃H' ae m' ek ck,Inv K.g0 (hS bl H J) ae m' H'/\((∃v,(e8 K.Q ek ck).aE bA args H=some (.returned v,H')/\gT v m' ae)\/∃bk,(e8 K.Q ek ck).aE bA args H=some (.panicked bk,H')/\e9 bk m' ae)
theorem aa1{S:aV}{H:an}{ek:Code->aV->an->Option (Exit×aV×an)}{ck:eo}{c:Call}{x:Operand}{bA:Nat}{args:List Value}(aj:Sat ⟨n,ds,l⟩ S)
 (ah:o.op=.call c)(aD:c.callee=.value x)(U:bx l x=some (.func (.yield bA) #[] #[]))(aF:hC l c.args.toList=some args):cj K.P (gV K.Q ck) (e8 K.Q ek ck).aE S H o=DS ((e8 K.Q ek ck).aE bA args H):=by
 unfold cj eF;simp only[ah];show ju K.P _ c=_;unfold ju;rw[aD];show lK K.P _ _ S.T H c=_;unfold lK;rw[m6 aj H aF];simp only[aD];rw[c6 aj H U];rfl
def zR(bA:Nat):dJ:=⟨[],some bA,false,.run⟩
def LI:List Tmp->List Value->List (Nat×Value)->List (Nat×Value)
 |t::ts,v::vs,l=>LI ts vs ((t,v)::l)
 |_,_,l=>l
theorem anM{eM:dJ}:∀{ts:List Tmp} {vs:List Value} {l:List (Nat×Value)} {T:aW Value},uw n ts=true->ts.length=vs.length->Sat ⟨n,eM,l⟩ ⟨T,n,eM.ds,eM.bG,eM.bd,eM.cc⟩->∃dD,tM T ts vs=some dD/\Sat ⟨n,eM,LI ts vs l⟩ ⟨dD,n,eM.ds,eM.bG,eM.bd,eM.cc⟩:=by
 intro ts;induction ts with
 |nil=>intro vs l T _ h aj;cases vs with
  |nil=>exact⟨T,rfl,aj⟩
  |cons=>cases h
 |cons t ts aP=>
  intro vs l T ai h aj;cases vs with
  |nil=>cases h
  |cons v vs=>
   simp only[uw,gg] at ai;obtain⟨a0,s1,s2⟩:=aj.put (dst:=some t) ai.1 v;have b1:∃pR,aW.put v T t=some pR/\a0=⟨pR,n,eM.ds,eM.bG,eM.bd,eM.cc⟩:=by
    have s1:Bool.rec (motive:=fun _=>Option aV) none (aV.pz n eM.ds eM.bG eM.bd eM.cc (aW.put v T t)) (Nat.ble (Nat.succ t) n)=some a0:=s1;have ox:Nat.ble (Nat.succ t) n=true:=by simpa[Nat.blt] using ai.1
    rw[ox] at s1;cases ao:aW.put v T t with
    |none=>rw[ao] at s1;cases s1
    |some pR=>rw[ao] at s1;injection s1 with s1;exact⟨pR,rfl,s1.symm⟩
   obtain⟨pR,t1,rfl⟩:=b1;obtain⟨dD,aw,aR⟩:=aP (l:=(t,v)::l) ai.2 (by simpa using h) s2;refine⟨dD,?_,aR⟩;simp only[tM,aW.set];rw[t1];exact aw
theorem sX.of{bA:Nat}{r:oP}{L:List (Nat×Value)}{args:List Value}{bl:aO}{gT:Value->aO->af->Prop}{e9:List PanicEntry->aO->af->Prop}(aq:r.state=.ready)(Ag:(bA,.loop r)∈bl)(b1:Sat ⟨r.n,zR bA,L⟩ ⟨r.T,r.n,[],false,.run,some bA⟩)(JW:uw r.n r.params=true)(hlen:r.params.length=args.length)
 (h:∀H,aB K (hS bl H J) r.assign ⟨r.n,zR bA,LI r.params args L⟩ bl J fun e E m bi=>e=.normal/\∃cL,eS m bA (.loop r) (.loop {r with state:=.busy}) cL/\
  aB K (hS bl H J) r.body E cL bi fun e E m de=>(∃j cW eA lU,C' e=some j/\eS m bA (.loop cW) (.loop {cW with state:=if j.isNone then .ready else .done,pending:=j}) eA/\lU.Sublist eA/\gT (.bool j.isNone) lU de)\/
   ∃bk lU,e=.panic bk/\E.ds.ds=[]/\lU.Sublist m/\e9 bk lU de):sX K bA args bl J gT e9:=by
 intro H av;obtain⟨dD,cP,gW⟩:=anM (eM:=zR bA) JW hlen b1;obtain⟨e,a0,H1,dC,cL,bi,bp,bN,cN,rfl,eA,gz,eu⟩:=h H _ H gW av;have bp:dk K.Q r.assign ⟨dD,r.n,[],false,.run,some bA⟩ H .normal a0 H1:=bp;have bY:H1.mem.get bA=some (.loop r):=(cN.own _ _ gz.mem).1;obtain⟨bK,u1⟩:=cN.wf.upd (.loop {r with state:=.busy}) (cN.lt gz.mem);have Jl:=cN.upd gz u1 (by show bK.mem.get bA=_;rw[(an.qv u1).2.2.2.2,a2 rfl]);obtain⟨aR,o2,eX,arQ,lU,fe,d1,d2,d3,d0⟩:=eu a0 bK bN Jl;have ax:H.mem.get bA=some (.loop r):=(av.own _ _ Ag).1;have o9:Nat.ble H.bz bA=true:=lH (by have:=(av.own _ _ Ag).2.2.2;have:=av.bz;omega);have key:∀j3,LF bA (some (aR,o2,eX))=j3->(e8 K.Q (Q8 r.assign ⟨dD,r.n,[],false,.run,some bA⟩ H (.normal,a0,H1) r.body a0 bK (aR,o2,eX)) j2).aE bA args H=j3:=fun j3 lO=>by
  show(match H.mem.get bA with
   |some (.loop r)=>bif Nat.ble H.bz bA&&uw r.n r.params then aa3 _ bA r H (tM r.T r.params args) else none
   |_=>none)=_
  rw[ax];simp only
  rw[o9,JW,vy,b4,cP];show Sh _ bA r.body (qQ K.Q _ r.assign ⟨dD,r.n,[],false,.run,some bA⟩ H)=_;rw[M2 bp (by unfold Q8;rw[a2 ⟨rfl,rfl,rfl⟩])];show HP _ bA r.body a0 H1=_;unfold HP;rw[bY];simp only[aq];rw[u1];show LF bA (qQ K.Q _ r.body a0 bK)=_;rw[M2 d1 (by
   unfold Q8;split
   ·rename_i q;obtain⟨aK,aH,bJ⟩:=q;subst bJ;rw[(an.qv u1).2.2.2.2,a2 rfl] at ax;injection ax with ax;injection ax with ax
    have:=b6 oP.state ax;rw[aq] at this;cases this
   ·rw[a2 ⟨rfl,rfl,rfl⟩])]
  exact lO
 rcases d0 with⟨j,cW,sj,vc,d4,d5,d6,d7⟩|⟨bk,vc,rfl,d5,d6,d7⟩
 ·have cz:eX.mem.get bA=some (.loop cW):=(d3.own _ _ d5.mem).1;obtain⟨jS,bU⟩:=d3.wf.upd (.loop {cW with state:=if j.isNone then .ready else .done,pending:=j}) (d3.lt d5.mem);have Fk:=d3.upd d5 bU (by show jS.mem.get bA=_;rw[(an.qv bU).2.2.2.2,a2 rfl]);refine⟨jS,fe,vc,_,_,Fk.sub d6,.inl ⟨.bool j.isNone,key _ ?_,d7⟩⟩;show(match C' aR with|some j=>Bv eX bA j|none=>HQ eX aR o2.ds)=_
  rw[d4];show Bv eX bA j=_;unfold Bv;rw[cz];simp only[bU];rfl
 ·refine⟨eX,fe,vc,_,_,d3.sub d6,.inr ⟨bk,key _ ?_,d7⟩⟩;show HQ eX (.panic bk) o2.ds=_;rw[d2.ds,d5];rfl
def YC(cd:Exit->b0->aO->af->Prop)(E:b0)(m:aO)(J:af):Option Code->Prop
 |none=>cd .normal E m J
 |some .ret=>cd .ret E m J
 |some (.exit id)=>cd (.exit id) E m J
 |some _=>False
def dJ.plus(eM:dJ)(r:Nat):dJ:=⟨{target:=.collected r,args:=#[]}::eM.ds,eM.cc,eM.bG,eM.bd⟩
theorem aB.an7{f:Operand}{params:Array Tmp}{assign body:Code}{g:FuncId}{first cap:Array Value}(p8:ds.cc=none)(aA:bx l f=some (.func (.func g) first cap))
 (h:∀kO bA (T:aW Value),Sat ⟨n,zR bA,l⟩ ⟨T,n,[],false,.run,some bA⟩->∃bl c2 dg e9,(bl++c2).Perm ((bA,.loop ⟨.ready,none,T,n,params.toList,assign,body,kO⟩)::(kO,.gk)::m)/\yK bl/\
  lb K g ((first.toList++[.func (.yield bA) #[] #[]])++cap.toList) bl J dg e9/\(∀bk m' ae,J.le ae->e9 bk m' ae->cd (.panic bk) ⟨n,ds.plus kO,l⟩ (m'++c2) ae)/\∀v m' ae,J.le ae->dg v m' ae->∃ch k0,eS (m'++c2) bA (.loop ch) (.loop {ch with state:=.exhausted}) k0/\ch.state≠.busy/\YC cd ⟨n,ds.plus kO,l⟩ k0 ae ch.pending):
 aB K B (.rangeFunc f params assign body) ⟨n,ds,l⟩ m J cd:=by
 intro S H aj av;obtain⟨H1,aw⟩:=av.wf.new (.gk (some []));have Jk:=av.new (p:=.gk) aw (by show H1.mem.get H.ay=_;rw[(an.oG aw).2.2.2.2.2,a2 rfl]);obtain⟨bK,aR⟩:=Jk.wf.new (.loop ⟨.ready,none,S.T,S.n,params.toList,assign,body,H.ay⟩);have az:S.n=n:=aj.n;have Jl:=Jk.new (p:=.loop ⟨.ready,none,S.T,n,params.toList,assign,body,H.ay⟩) aR (by show bK.mem.get H1.ay=_;rw[(an.oG aR).2.2.2.2.2,a2 rfl,az]);have ajy:Sat ⟨n,zR H1.ay,l⟩ ⟨S.T,n,[],false,.run,some H1.ay⟩:=⟨rfl,rfl,rfl,rfl,rfl,aj.has,aj.get⟩;obtain⟨bl,c2,dg,e9,cP,gW,nq,ic,yV⟩:=h H.ay H1.ay S.T ajy;obtain⟨eX,fe,lU,aH,anY⟩:=nq bK (Jl.enter cP gW);obtain⟨dU,fP⟩:=Jl.leave cP aH;have Jt:Sat ⟨n,ds.plus H.ay,l⟩ {S with ds:={target:=.collected H.ay,args:=#[]}::S.ds}:=⟨aj.n,by show _::_=_::_;rw[aj.ds],aj.bG,aj.bd,aj.cc,aj.has,aj.get⟩;have WY:∀Cb j3,iS K.Q g ((first.toList++[.func (.yield H1.ay) #[] #[]])++cap.toList) bK Cb eX->K8 {S with ds:={target:=.collected H.ay,args:=#[]}::S.ds} H1.ay (some (Cb,.run,eX))=some j3->dk K.Q (.rangeFunc f params assign body) S H j3.1 j3.2.1 j3.2.2:=fun Cb j3 aK lO=>by
  refine dk.vh K.cw.qi gd (ka g ((first.toList++[.func (.yield H1.ay) #[] #[]])++cap.toList) bK (Cb,eX)) ?_;show Ce K.P _ f params assign body S H=_;unfold Ce Hl;rw[show S.cc=none from aj.cc.trans p8] at lO ⊢;simp only[aw,aR];rw[c6 aj bK aA];unfold Y3;simp only[jG];show K8 _ H1.ay ((e8 K.Q _ _).body g _ false .run bK)=_;have ai:(e8 K.Q gd (ka g ((first.toList++[.func (.yield H1.ay) #[] #[]])++cap.toList) bK (Cb,eX))).body g ((first.toList++[.func (.yield H1.ay) #[] #[]])++cap.toList) false .run bK=some (Cb,.run,eX):=by
   unfold e8;simp only[By,Ay];rw[x3 aK (by unfold ka;rw[a2 ⟨rfl,rfl,rfl⟩])]
  rw[ai];exact lO
 rcases anY with⟨v,aK,bJ⟩|⟨bk,aK,bJ⟩
 case inr=>exact⟨_,_,_,_,_,_,WY _ (.panic bk,_,eX) aK rfl,Jt,dU,ic _ _ _ fP bJ⟩
 obtain⟨ch,sj,s1,s2,fQ⟩:=yV v lU fe fP bJ;have cz:eX.mem.get H1.ay=some (.loop ch):=(dU.own _ _ s1.mem).1;obtain⟨jS,bU⟩:=dU.wf.upd (.loop {ch with state:=.exhausted}) (dU.lt s1.mem);have Fk:=dU.upd s1 bU (by show jS.mem.get H1.ay=_;rw[(an.qv bU).2.2.2.2,a2 rfl]);have key:∀j3,Rf {S with ds:={target:=.collected H.ay,args:=#[]}::S.ds} ch.pending jS=some j3->dk K.Q (.rangeFunc f params assign body) S H j3.1 j3.2.1 j3.2.2:=fun j3 lO=>by
  refine WY _ j3 aK ?_;show Hk _ H1.ay eX=_;unfold Hk;rw[cz];simp only
  cases dn:ch.state with
  |busy=>exact absurd dn s2
  |ready=>simp only[bU];exact lO
  |done=>simp only[bU];exact lO
  |exhausted=>simp only[bU];exact lO
 cases Wb:ch.pending with
 |none=>rw[Wb] at fQ key;exact⟨_,_,_,_,_,_,key _ rfl,Jt,Fk,fQ⟩
 |some c=>
  rw[Wb] at fQ key;cases c with
  |ret=>exact⟨_,_,_,_,_,_,key _ rfl,Jt,Fk,fQ⟩
  |exit id=>exact⟨_,_,_,_,_,_,key _ rfl,Jt,Fk,fQ⟩
  |_=>exact absurd fQ id
theorem Inv.drop{g0 a:Nat}{b:dw}{c:e3}{H H1:an}(h:Inv g0 B J m H)(ao:((a,b)::m').Perm m)(aw:H.upd a c=some H1):Inv g0 B J m' H1:=by
 have h:=h.perm ao.symm;obtain⟨aU,aQ,bj,ct⟩:=h.own a b (.head _);have b9:=h.lt (.head _);have dP:=h.fT;rw[show ids ((a,b)::m')=a::(b.rest++ids m') from rfl,sN,nB] at dP;obtain⟨d',ej,eD,gA,jO⟩:=an.qv aw;refine⟨h.wf.Lp b9 aw,gA.trans h.bz,by rw[d'];exact h.ay,by rw[eD];exact h.cn,fun x U dr=>?_,fun f aA=>by rw[ej];exact h.mM f aA,fun x c e aY=>?_,h.le,h.fresh,fun x b ai=>?_,fun x b ai y au=>by rw[d'];exact h.opn x b (.tail _ ai) y au,(BL _ _).nodup dP.2⟩
 ·rw[jO,aZ (fun q=>by subst q;rcases aQ with q|q;·omega
                      ·exact dr q)]
  exact h.fF x U dr
 ·obtain⟨o,f,z,s,q⟩:=h.ed x c e aY
  exact⟨o,f,z,s,by rw[jO,aZ (fun r=>by subst r;rw[bj] at aY;cases aY)];exact q⟩
 ·obtain⟨dL,du,js,lv⟩:=h.own x b (.tail _ ai)
  exact⟨dw.vP dL (by rw[jO,aZ (fun q=>dP.1 (by subst q;exact .inr (yB ai)))]) (fun f l aA=>by rw[ej];exact aA),du,js,lv⟩
inductive zp:List Deferred->aO->aO->Prop
 |nil (m:aO):zp [] m m
 |vZ {r:Nat} {dl:List Deferred} {m cL eA:aO}:((r,.gk)::cL).Perm m->zp dl cL eA->zp ({target:=.collected r,args:=#[]}::dl) m eA
theorem zp.Zw{E':fv}{fn:Func}{T:aW Value}{dl:List Deferred}{eA:aO}{u:FrameMode}(hu:Gn u=false)(h:zp dl m eA):∀{H:an},Inv K.g0 B J m H->∃H',Inv K.g0 B J eA H'/\∀r,g8 K.P E' fn T [] u H'=r->g8 K.P E' fn T dl u H=r:=by
 induction h with
 |nil m=>intro H av;exact⟨H,av,fun r q=>q⟩
 |@vZ r dl m cL eA ao _ aP=>
  intro H av;have tr:(r,dw.gk)∈m:=ao.subset (.head _);obtain⟨aU,aQ,bj,ct⟩:=av.own _ _ tr;have aU:H.mem.get r=some (.gk (some [])):=aU;obtain⟨H1,aw⟩:=av.wf.upd (.gk none) (av.lt tr);obtain⟨H',aK,aH⟩:=aP (av.drop ao aw);refine⟨H',aK,fun ch aq=>?_⟩;have:=aH ch aq;show g8 K.P E' fn T ({target:=.collected r,args:=#[]}::dl) u H=ch;unfold g8;simp only[hu,da,aU];rw[show Nat.ble H.bz r=true from lH (by have:=av.bz;omega),b4,aw];exact this
theorem Fn.KO{f:FuncId}{fn:Func}{c:Code}{args:List Value}{bl:aO}{dg:Value->aO->af->Prop}(aA:K.e5.get f=some fn)(ai:fn.body=some c)(ap:Nat.ble args.length fn.ntmps=true)
 (h:∀H,aB K (hS bl H J) c ⟨fn.ntmps,x8,sY args 0⟩ bl J fun e E m ae=>(e=.normal\/e=.ret)/\∃cL vs m',zp E.ds.ds m cL/\l6 K.P E cL ae fn.results.toList vs/\m'.Sublist cL/\dg (ql vs) m' ae):Fn K f args bl J dg:=by
 intro H av;obtain⟨T,a7,bc,cu⟩:=MB (vs:=args) (i:=0) (n:=fn.ntmps) (MG fn.ntmps) (by have:=hv ap;omega);have aj:Sat ⟨fn.ntmps,x8,sY args 0⟩ ⟨T,fn.ntmps,[],false,.run,none⟩:=by
  refine⟨rfl,rfl,rfl,rfl,rfl,bc,fun t v q=>?_⟩;obtain⟨_,aH⟩:=Mz q;show T.get t=some v;have:t<args.length:=by
   rcases hL t args.length with r|r
   ·exact r
   ·rw[oe (by omega)] at aH;cases aH
  rw[cu,a2 (by omega)];exact aH
 obtain⟨e,aC,H',E',fH,ae,aU,aQ,bj,ct,cL,vs,m',fo,jN,oD,rj⟩:=h H _ H aj av;obtain⟨bK,aK,aH⟩:=fo.Zw (u:=.returning) rfl (E':=e8 K.Q (kb c ⟨T,fn.ntmps,[],false,.run,none⟩ H (e,aC,H')) j2) (fn:=fn) (T:=aC.T) bj;refine⟨ql vs,bK,ae,m',?_,aK.sub oD,rj⟩;refine iS.run K.cw aA ai a7 aU (bd:=aC.bd) ?_;have aq:=jN.uH aQ aK;have q9:=aH (some (.returned (ql vs),bK)) (by unfold g8;rw[aq]);rcases ct with rfl|rfl
 ·show pT aC.bd (g8 K.P _ fn aC.T aC.ds .returning H')=_;rw[aQ.ds,q9];rfl
 ·show pT aC.bd (g8 K.P _ fn aC.T aC.ds .returning H')=_;rw[aQ.ds,q9];rfl
end
section
variable {K:dy}{B:c5}{o:Oper}{n:Nat}{ds:dJ}{l:List (Nat×Value)}{m m':aO}{J:af}{e7:b0->aO->af->Prop}{d:Nat}
theorem Acc.ed{c:Code}{e:TypeId}{sz k:Nat}{v:Value}{cells:List Value}{a8 fH:aO}{E:b0}{cd:Exit->b0->aO->af->Prop}(h:Acc e sz v k cells a8)(hm:m=a8++fH)(hk:∀ae,J.le ae->fg ae e sz v k cells->aB K B c E fH ae cd):aB K B c E m J cd:=by
 subst hm;cases h with
 |nil=>exact hk J (af.le.refl _) .nil
 |jF a=>exact hk J (af.le.refl _) (.jF _ _ _ (by decide))
 |@opn a k cells rest z ap aG=>
  intro S H aj av;obtain⟨aU,aQ⟩:=av.hy (m:=fH) (x:=(cells,e)) rfl;exact hk _ aQ (.row (af.gC _ _ _) (by rw[g5,cM (by omega)]) ap (fun q=>absurd rfl q) (fun _=>rfl)) S H aj aU
 |@cap a k C cells full el ab ad aL a6=>
  intro S H aj av;obtain⟨aU,aQ⟩:=av.hy (m:=fH) (x:=(full,el)) rfl;exact hk _ aQ (.row (af.gC _ _ _) ad (by rw[<-ad,dY,ab,fV (eK _ aL)]) (fun _=>⟨aL,a6⟩) (fun q=>absurd q (Ed a6))) S H aj aU
end
section
variable {K:dy}{B:c5}{o:Oper}{n:Nat}{ds:dJ}{l:List (Nat×Value)}{m m':aO}{J:af}{e7:b0->aO->af->Prop}{d:Nat}{cd:Exit->b0->aO->af->Prop}
theorem wrap_u8{n:Int}(ab:0<=n)(ad:n<=255):IntKind.u8.wrap n=n:=by
 unfold IntKind.wrap IntKind.signed IntKind.bits;simp only[DY,By,Ay];omega
def Mx (a b:Int):BinOp->Option Int
 |.add=>some (a+b)
 |.sub=>some (a -b)
 |.mul=>some (a*b)
 |_=>none
theorem aqw{op:BinOp}{t dx:TypeId}{x y:Operand}{k:IntKind}{a b c c':Int}(ah:o.op=.binOp op t x y dx)(U:bx l x=some (.int k a))(au:bx l y=some (.int k b))(ar:Mx a b op=some c)(hw:k.wrap c=c'):cO K B o n ds l m J (.int k c'):=by
 refine aaB ah U au ?_;cases op<;>simp only[Mx,cl,reduceCtorEq] at ar<;>subst ar<;>subst hw<;>rfl
def isIface (P:Program)(t:TypeId):Bool:=match P.underlying t with|some (.interface _)=>true|_=>false
def Kb:Value->Option Bool
 |.nilIface=>some true
 |.iface _ _=>some false
 |_=>none
theorem aaz{t dx:TypeId}{x:Operand}{v:Value}{b:Bool}(ah:o.op=.binOp .eql t x (.const .nilIface) dx)(U:bx l x=some v)(ar:Kb v=some b)(aJ:isIface K.P t=true):cO K B o n ds l m J (.bool b):=by
 intro call aE S H aj av;have au:bx l (.const .nilIface)=some .nilIface:=rfl;unfold isIface at aJ;split at aJ
 ·rename_i Kt hu;cases v with
  |nilIface=>
   simp only[Kb,cl] at ar;subst ar;unfold cj eF;simp only[ah];show lX K.P _ .eql t (a1 S.T H x) (a1 S.T H (.const .nilIface))=_;rw[c6 aj H U,c6 aj H au];show orElse (fl K.P S.T H o) _=_;have:fl K.P S.T H o=some (.val (.bool true) H):=by
    refine qn aj (by rw[ah];rfl) U au rfl rfl ?_ rfl;unfold execOp;simp only[ah];rw[hN aj H U,hN aj H au];rw[gM (a:=.bool true)]
    ·rfl
    rw[gM (a:=())]
    ·have ai:binOp .eql t .nilIface .nilIface=(do pure (.bool (<-Op.equal t .nilIface .nilIface))):=by simp[binOp]
     rw[ai,gM (a:=true)]
     ·rfl
     show e0 K.P (Op.equalIn (9999+1) t .nilIface .nilIface)=_;unfold Op.equalIn;rw[gM (NA hu)];rfl
    ·unfold eqGuard;simp
     rfl
   rw[this];rfl
  |iface k7 v'=>
   simp only[Kb,cl] at ar;subst ar;cases ao:fl K.P S.T H o with
   |none=>
    refine acM ah (c6 aj H U) (c6 aj H au) (fun _ _ q=>by cases q) ao ?_;unfold xf ya;simp only[hu]
   |some r=>
    unfold cj eF;simp only[ah];show lX K.P _ .eql t (a1 S.T H x) (a1 S.T H (.const .nilIface))=_;rw[c6 aj H U,c6 aj H au];show orElse (fl K.P S.T H o) _=_;have:fl K.P S.T H o=some (.val (.bool false) H):=by
     have eQ:plain (.iface k7 v')=true:=by
      cases q:plain (.iface k7 v') with
      |true=>rfl
      |false=>
       exfalso;unfold fl at ao;rw[ah] at ao;have:fy S.T H (Op.binOp BinOp.eql t x (.const .nilIface) dx).operands.toList=some [.iface k7 v',.nilIface]:=by
        show fy S.T H [x,.const .nilIface]=_;simp only[fy];rw[c6 aj H U,c6 aj H au]
       rw[this] at ao;simp only[BG,q,DY,da] at ao;cases ao
     refine qn aj (by rw[ah];rfl) U au eQ rfl ?_ rfl;unfold execOp;simp only[ah];rw[hN aj H U,hN aj H au];rw[gM (a:=.bool false)]
     ·rfl
     rw[gM (a:=())]
     ·have ai:binOp .eql t (.iface k7 v') .nilIface=(do pure (.bool (<-Op.equal t (.iface k7 v') .nilIface))):=by simp[binOp]
      rw[ai,gM (a:=false)]
      ·rfl
      show e0 K.P (Op.equalIn (9999+1) t (.iface k7 v') .nilIface)=_;unfold Op.equalIn;rw[gM (NA hu)];rfl
     ·unfold eqGuard;simp
      rfl
    rw[this];rfl
  |_=>simp[Kb] at ar
 ·cases aJ
theorem UZ{S:aV}{ops:List Oper}{d:Nat}{want:Bool}(ax:jZ ops o=some (d,want))(ai:S.T.get d=some undef):fa ops S.T o=some false:=by
 unfold jZ at ax;unfold fa;cases q:o.guard with
 |none=>rw[q] at ax;cases ax
 |some x=>
  obtain⟨j,w⟩:=x;rw[q] at ax;show uN ops S.T (j,w)=_;unfold uN;simp only at ax ⊢;cases az:nth ops j with
  |none=>rfl
  |some p=>
   rw[az] at ax;simp only at ax ⊢;cases al:p.dst with
   |none=>rfl
   |some kN=>
    rw[al] at ax;simp only[cl,dm] at ax;obtain⟨rfl,rfl⟩:=ax;simp only[ai];rfl
theorem W.ag5{ops rest:List Oper}{ba:Option (List PanicEntry)->b0->aO->af->Prop}{d e:Nat}{want:Bool}(ax:jZ ops o=some (d,want))(ai:look l d=some undef)(al:o.dst=some e)(az:Nat.blt e n=true)(h:W K B ops rest ⟨n,ds,(e,undef)::l⟩ m J ba):W K B ops (o::rest) ⟨n,ds,l⟩ m J ba:=by
 intro S H aj av;have eh:=UZ ax (aj.get d _ ai);obtain⟨a0,s1,s2⟩:=aj.put (dst:=some e) az undef;obtain⟨p,aC,H',E',m',ae,aU,aQ,bj,ct⟩:=h a0 H s2 av;refine⟨p,aC,H',E',m',ae,.cons gd j2 ?_ aU,aQ,bj,ct⟩;unfold one;rw[eh];show mq H (S.put o.dst undef)=_;rw[al,s1];rfl
theorem aB.fD{c:Code}(k:Nat)(news:List (Nat×Value))(ab:aB K B c ⟨n,ds,l⟩ m J fun e E' m' ae=>match e with
 |.normal=>(∃l',E'=⟨n,ds,l'⟩/\kl l' (news++l.drop k))/\m.Sublist m'/\ae=J
 |e=>cd e E' m' ae)(ad:cd .normal ⟨n,ds,news++l.drop k⟩ m J):aB K B c ⟨n,ds,l⟩ m J cd:=aB.cut ab ad
theorem aB.alj{α:Type}{c:Code}{base:List (Nat×Value)}(sm:α->List (Nat×Value))(mem:α->aO)(ed:α->af)(inv:α->Prop)(sl:α->Nat)(s:α)(hs:inv s)
 (bb:∀s,inv s->aB K B c ⟨n,ds,sm s++base⟩ (mem s) (ed s) fun e E m J=>match e with
  |.normal=>∃cQ l,inv cQ/\sl cQ<sl s/\E=⟨n,ds,l⟩/\kl l (sm cQ++base)/\(mem cQ).Sublist m/\J=ed cQ
  |e=>cd e E m J):aB K B (.loop c) ⟨n,ds,sm s++base⟩ (mem s) (ed s) cd:=
 aB.loop (fun s=>sm s++base) mem ed inv sl bb s hs
theorem aB.ali{α:Type}{c:Code}{base:List (Nat×Value)}(sm:α->List (Nat×Value))(inv:α->Prop)(sl:α->Nat)(s:α)(hs:inv s)
 (bb:∀s,inv s->aB K B c ⟨n,ds,sm s++base⟩ m J fun e E cL bi=>match e with
  |.normal=>∃cQ l,inv cQ/\sl cQ<sl s/\E=⟨n,ds,l⟩/\kl l (sm cQ++base)/\m.Sublist cL/\bi=J
  |e=>cd e E cL bi):aB K B (.loop c) ⟨n,ds,sm s++base⟩ m J cd:=
 aB.loop (fun s=>sm s++base) (fun _=>m) (fun _=>J) inv sl bb s hs
theorem aB.alk{c:Code}{E:b0}(h:aB K B c E m J fun e E m J=>match e with
 |.normal=>aB K B (.loop c) E m J cd
 |e=>cd e E m J):aB K B (.loop c) E m J cd:=by
 intro S H aj av;obtain⟨e,a0,H1,dC,cL,bi,ab,ad,aL,a6⟩:=h S H aj av;cases e with
 |normal=>
  have a6:aB K B (.loop c) dC cL bi cd:=a6;obtain⟨bC,aC,H',E',m',ae,aU,aQ,bj,ct⟩:=a6 a0 H1 ad aL;exact⟨bC,aC,H',E',m',ae,dk.Xu ab aU,aQ,bj,ct⟩
 |exit i=>exact⟨_,a0,H1,dC,cL,bi,dk.vb ab (fun q=>by cases q),ad,aL,a6⟩
 |goto i=>exact⟨_,a0,H1,dC,cL,bi,dk.vb ab (fun q=>by cases q),ad,aL,a6⟩
 |ret=>exact⟨_,a0,H1,dC,cL,bi,dk.vb ab (fun q=>by cases q),ad,aL,a6⟩
 |panic c=>exact⟨_,a0,H1,dC,cL,bi,dk.vb ab (fun q=>by cases q),ad,aL,a6⟩
 |outgrown=>exact⟨_,a0,H1,dC,cL,bi,dk.vb ab (fun q=>by cases q),ad,aL,a6⟩
theorem eS.app{a8 m m':aO}{a:Nat}{b b':dw}(h:eS m a b b' m'):eS (a8++m) a b b' (a8++m'):=by
 induction a8 with
 |nil=>exact h
 |cons x a8 aP=>exact .tail x aP
theorem W.ed{ops rest:List Oper}{ba:Option (List PanicEntry)->b0->aO->af->Prop}{E:b0}{a:Nat}{b:dw}{x:List Value×TypeId}(U:b.rowOf=some x)(h:J.le (J.add a x)->(J.add a x) a=some x->W K B ops rest E m (J.add a x) ba):W K B ops rest E ((a,b)::m) J ba:=by
 intro S H aj av;obtain⟨aU,aQ⟩:=av.hy U;exact h aQ (af.gC _ _ _) S H aj aU
def mY(J:af)(v:Value)(l:List Int):Prop:=∃e,fg J e 1 v l.length (l.map (Value.int .i64))
theorem mY.mono{ae:af}(hle:J.le ae){v:Value}{l:List Int}(h:mY J v l):mY ae v l:=by obtain⟨e,h⟩:=h;exact⟨e,h.mono hle⟩
theorem mY.inv{v:Value}{l:List Int}(h:mY J v l):∃b c,v=.slice b l.length c/\(b=none->l=[])/\(0<l.length->∃a off cells e,b=some ⟨a,off,none⟩/\J a=some (cells,e)/\∀(i:Int),0<=i->i<l.length->∃x,l[i.toNat]?=some x/\nth cells (off+i.toNat*1)=some (.int .i64 x)):=by
 obtain⟨e,h⟩:=h;obtain⟨b,c,ab,ad,a6,aL⟩:=fg.inv h;refine⟨b,c,ab,fun q=>kn (a6 q),fun q=>?_⟩;obtain⟨a,off,cells,e,aU,aQ,bj⟩:=aL q;refine⟨a,off,cells,e,aU,aQ,fun i i0 i1=>?_⟩;have b9:i.toNat<l.length:=by omega
 refine⟨l[i.toNat],dX b9,?_⟩;rw[gJ,bj _ (by omega),j6,dX b9];rfl
theorem aqK{c:Call}{s:List UInt8}{t:TypeId}(ah:o.op=.call c)(aD:c.callee=.builtin .len)(aF:hC l c.args.toList=some [.string ⟨⟨s⟩⟩])(aJ:c.argTypes.toList=[t])(hs:u9 K.P t=true):cO K B o n ds l m J (.int .i64 s.length):=aqM ah aD aF aJ hs
theorem aaA{t:TypeId}{x c7:Operand}{s:List UInt8}{k:IntKind}{i:Int}{b:UInt8}(ah:o.op=.index t x c7)(U:bx l x=some (.string ⟨⟨s⟩⟩))(ak:bx l c7=some (.int k i))(aJ:u9 K.P t=true)(aN:0<=i)(ai:s[i.toNat]?=some b):cO K B o n ds l m J (.int .u8 b.toNat):=aqJ ah U ak aJ aN ai
theorem anq{α:Type}:∀(L:List α) (k:Nat) (h:k<L.length),(L[k]::L.eraseIdx k).Perm L:=by
 intro L;induction L with
 |nil=>intro k h;cases h
 |cons a L aP=>
  intro k h;cases k with
  |zero=>exact List.Perm.refl _
  |succ k=>exact(List.Perm.swap _ _ _).trans ((aP k (by simpa using h)).cons a)
theorem gu{α:Type}{p:α}{rest L:List α}(k:Nat)(ao:nth L k=some p)(aq:rest.Perm (L.eraseIdx k)):(p::rest).Perm L:=by
 rw[kA] at ao;obtain⟨h,rfl⟩:=gS.1 ao;exact(aq.cons _).trans (anq L k h)
end
section
variable {K:dy}{B:c5}{n:Nat}{ds:dJ}{l:List (Nat×Value)}{m:aO}{J:af}{cd:Exit->b0->aO->af->Prop}
structure ue (r:oP) (n:Nat) (params:List Tmp) (assign body:Code) (bA:Nat) (l:List (Nat×Value)):Prop where
 iC:r.state=.ready
 yJ:r.n=n
 ps:r.params=params
 bV:r.assign=assign
 uz:r.body=body
 vl:r.pending=none
 sat:Sat ⟨n,zR bA,l⟩ ⟨r.T,n,[],false,.run,some bA⟩
theorem ue.again{r:oP}{params:List Tmp}{assign body:Code}{bA:Nat}(h:ue r n params assign body bA l):ue {r with state:=.ready,pending:=none} n params assign body bA l:=⟨rfl,h.yJ,h.ps,h.bV,h.uz,rfl,h.sat⟩
end
structure abg (H H':an):Prop where
 wf:iT H'
 bz:H'.bz=H.bz
 ay:H.ay<=H'.ay
 cn:H.cn<=H'.cn
 fF:∀a,a<H.ay->H'.mem.get a=H.mem.get a
 mM:∀f,f<H.cn->H'.bw.get f=H.bw.get f
open Classical in
def adB (K:dy)(f:FuncId)(bV:List Value)(v:Value)(H:an):an:=if h:∃H',iS K.Q f bV H (.returned v) H'/\abg H H' then Classical.choose h else H
abbrev uq:=List (FuncId×List Value×Value)
def Zb:uq->FuncId->Option (List Value×Value)
 |[],_=>none
 |(g,bV,v)::R,f=>bif Nat.beq f g then some (bV,v) else Zb R f
open Classical in
def A1 (K:dy)(R:uq):eo:=fun f args H=>match Zb R f with
 |some (bV,v)=>if args=bV then some (.returned v,adB K f args v H) else none
 |none=>none
def fL(K:dy)(B:c5)(R:uq)(ops:List Oper)(aX:List iG)(E:b0)(m:aO)(J:af)(ba:b0->aO->af->Prop):Prop:=
 ∀S H,Sat E S->Inv K.g0 B J m H->∃aC H' E' m' ae,c4 K.P (gV K.Q (A1 K R)) (e8 K.Q gd (A1 K R)).aE ops aX S H=some (.ok aC H')/\Sat E' aC/\Inv K.g0 B ae m' H'/\ba E' m' ae
section
variable {K:dy}{B:c5}{R:uq}{ops:List Oper}{aX:List iG}{E:b0}{m m':aO}{J:af}{o:Oper}{ba:b0->aO->af->Prop}{cd:Exit->b0->aO->af->Prop}
variable {n:Nat}{ds:dJ}{l:List (Nat×Value)}{d i g:Nat}{want b:Bool}
theorem aB.Ui(R:uq){id:Nat}{a:Array Oper}(ap:Gv a.toList=none)(bu:B7 a.toList=true)(ao:Hh a.toList=aX)(h:fL K B R a.toList aX E m J fun E m J=>cd .normal E m J):aB K B (.region id a true) E m J cd:=by
 intro S H aj av;obtain⟨aC,H',E',m',ae,ab,ad,aL,a6⟩:=h S H aj av;refine⟨.normal,aC,H',E',m',ae,dk.vh K.cw.qi gd (A1 K R) ?_,ad,aL,a6⟩;show qp (uI K.P (e8 K.Q gd (A1 K R)).call (e8 K.Q gd (A1 K R)).aE a.toList S H)=_;rw[H3];unfold uI;rw[ap];show qp (wc K.P (gV K.Q (A1 K R)) (e8 K.Q gd (A1 K R)).aE a.toList S H)=_;unfold wc;rw[bu,b4,ao,ab];rfl
theorem fL.nil(h:ba E m J):fL K B R ops [] E m J ba:=fun S H aj av=>⟨S,H,E,m,J,rfl,aj,av,h⟩
theorem fL.split(ai:look l d=some (.bool b))(ab:b=true->fL K B R ops aX ⟨n,ds,(d,.bool true)::l⟩ m J ba)(aN:b=false->fL K B R ops aX ⟨n,ds,(d,.bool false)::l⟩ m J ba):fL K B R ops aX ⟨n,ds,l⟩ m J ba:=by
 intro S H aj av;have key:∀c:Bool,b=c->Sat ⟨n,ds,(d,.bool c)::l⟩ S:=fun c e=>by
  subst e;refine⟨aj.n,aj.ds,aj.bG,aj.bd,aj.cc,aj.has,fun t v q=>?_⟩;have aH:(bif Nat.beq t d then some (Value.bool b) else look l t)=some v:=q;cases bI:Nat.beq t d with
  |true=>rw[bI,b4] at aH;obtain rfl:=eb bI;rw[<-aH];exact aj.get _ _ ai
  |false=>rw[bI,da] at aH;exact aj.get t v aH
 cases b with
 |true=>exact ab rfl S H (key true rfl) av
 |false=>exact aN rfl S H (key false rfl) av
theorem fL.aaN{v:Value}(ak:nth ops i=some o)(eh:∀S,Sat ⟨n,ds,l⟩ S->fa ops S.T o=some true)(al:o.dst=some d)(az:Nat.blt d n=true)(ar:cO K B o n ds l m J v)(h:fL K B R ops aX ⟨n,ds,(d,v)::l⟩ m J ba):fL K B R ops (.val i::aX) ⟨n,ds,l⟩ m J ba:=by
 intro S H aj av;obtain⟨a0,s1,s2⟩:=aj.put (dst:=some d) az v;obtain⟨aC,H',E',m',ae,ab,ad,aL,a6⟩:=h a0 H s2 av;refine⟨aC,H',E',m',ae,?_,ad,aL,a6⟩;show h3 ops i (k9 K.P _ _ ops S H (c4 K.P _ _ ops aX))=_;unfold h3;rw[ak];show k9 K.P _ _ ops S H (c4 K.P _ _ ops aX) o=_;unfold k9;rw[eh S aj];show Bl S H o.dst (c4 K.P _ _ ops aX) (cj K.P _ _ S H o)=_;rw[ar _ _ S H aj av,al];show(bif Nat.beq H.ay H.ay then oL (c4 K.P _ _ ops aX) H (S.put (some d) v) else none)=_;rw[hd,b4,s1];exact ab
theorem fL.HJ(ak:nth ops i=some o)(eh:∀S,Sat ⟨n,ds,l⟩ S->fa ops S.T o=some false)(al:o.dst=some d)(az:Nat.blt d n=true)(h:fL K B R ops aX ⟨n,ds,(d,undef)::l⟩ m J ba):fL K B R ops (.val i::aX) ⟨n,ds,l⟩ m J ba:=by
 intro S H aj av;obtain⟨a0,s1,s2⟩:=aj.put (dst:=some d) az undef;obtain⟨aC,H',E',m',ae,ab,ad,aL,a6⟩:=h a0 H s2 av;refine⟨aC,H',E',m',ae,?_,ad,aL,a6⟩;show h3 ops i (k9 K.P _ _ ops S H (c4 K.P _ _ ops aX))=_;unfold h3;rw[ak];show k9 K.P _ _ ops S H (c4 K.P _ _ ops aX) o=_;unfold k9;rw[eh S aj];show oL (c4 K.P _ _ ops aX) H (S.put o.dst undef)=_;rw[al,s1];exact ab
theorem agG(ax:o.guard=none):∀S,Sat ⟨n,ds,l⟩ S->fa ops S.T o=some true:=fun S aj=>by unfold fa;rw[ax]
theorem UT(ax:jZ ops o=some (g,want))(ai:look l g=some (.bool b))(hw:(b==want)=true):∀S,Sat ⟨n,ds,l⟩ S->fa ops S.T o=some true:=fun S aj=>by rw[z1 ax (aj.get g _ ai),hw]
theorem Je(ax:jZ ops o=some (g,want))(ai:look l g=some (.bool b))(hw:(b==want)=false):∀S,Sat ⟨n,ds,l⟩ S->fa ops S.T o=some false:=fun S aj=>by rw[z1 ax (aj.get g _ ai),hw]
theorem NR(ax:jZ ops o=some (g,want))(ai:look l g=some undef):∀S,Sat ⟨n,ds,l⟩ S->fa ops S.T o=some false:=fun S aj=>UZ ax (aj.get g _ ai)
theorem fL.val{v:Value}(ak:nth ops i=some o)(ax:o.guard=none)(al:o.dst=some d)(az:Nat.blt d n=true)(ar:cO K B o n ds l m J v)(h:fL K B R ops aX ⟨n,ds,(d,v)::l⟩ m J ba):fL K B R ops (.val i::aX) ⟨n,ds,l⟩ m J ba:=fL.aaN ak (agG ax) al az ar h
theorem fL.RZ{v:Value}(ak:nth ops i=some o)(ax:jZ ops o=some (g,want))(ai:look l g=some (.bool b))(hw:(b==want)=true)(al:o.dst=some d)(az:Nat.blt d n=true)(ar:cO K B o n ds l m J v)(h:fL K B R ops aX ⟨n,ds,(d,v)::l⟩ m J ba):fL K B R ops (.val i::aX) ⟨n,ds,l⟩ m J ba:=fL.aaN ak (UT ax ai hw) al az ar h
theorem fL.RX(ak:nth ops i=some o)(ax:jZ ops o=some (g,want))(ai:look l g=some (.bool b))(hw:(b==want)=false)(al:o.dst=some d)(az:Nat.blt d n=true)(h:fL K B R ops aX ⟨n,ds,(d,undef)::l⟩ m J ba):fL K B R ops (.val i::aX) ⟨n,ds,l⟩ m J ba:=fL.HJ ak (Je ax ai hw) al az h
theorem fL.RY(ak:nth ops i=some o)(ax:jZ ops o=some (g,want))(ai:look l g=some undef)(al:o.dst=some d)(az:Nat.blt d n=true)(h:fL K B R ops aX ⟨n,ds,(d,undef)::l⟩ m J ba):fL K B R ops (.val i::aX) ⟨n,ds,l⟩ m J ba:=fL.HJ ak (NR ax ai) al az h
theorem h6.of{v u:Value}(ak:nth ops i=some o)(eh:∀S,Sat ⟨n,ds,l⟩ S->fa ops S.T o=some true)(al:o.dst=some d)(ar:cO K B o n ds l m J v)(hu:look l d=some u)(he:eJ 8 v u=true):h6 K B ops n ds l m J i:=by
 intro call aE S H aj av;unfold vX;rw[ak];show IX K.P call aE ops S H o (fa ops S.T o)=true;rw[eh S aj];show IY H.ay S.T o.dst (cj K.P call aE S H o)=true;rw[ar _ _ S H aj av,al];show(Nat.beq H.ay H.ay&&(match S.T.get d with|some u=>eJ 8 v u|none=>false))=true
 rw[hd,aj.get d u hu];simpa using he
theorem h6.RZ{v u:Value}(ak:nth ops i=some o)(ax:jZ ops o=some (g,want))(ai:look l g=some (.bool b))(hw:(b==want)=true)(al:o.dst=some d)(ar:cO K B o n ds l m J v)(hu:look l d=some u)(he:eJ 8 v u=true):h6 K B ops n ds l m J i:=h6.of ak (UT ax ai hw) al ar hu he
theorem h6.no(ak:nth ops i=some o)(eh:∀S,Sat ⟨n,ds,l⟩ S->fa ops S.T o=some false):h6 K B ops n ds l m J i:=by
 intro call aE S H aj av;unfold vX;rw[ak];show IX K.P call aE ops S H o (fa ops S.T o)=true;rw[eh S aj];rfl
theorem fL.ca{is:List Nat}(aD:sH K B ops n ds l m J is)(h:fL K B R ops aX ⟨n,ds,l⟩ m J ba):fL K B R ops (.ca is::aX) ⟨n,ds,l⟩ m J ba:=by
 intro S H aj av;obtain⟨aC,H',E',m',ae,ab,ad,aL,a6⟩:=h S H aj av;refine⟨aC,H',E',m',ae,?_,ad,aL,a6⟩;show zH K.P _ _ ops S H (c4 K.P _ _ ops aX) is=_;unfold zH;rw[sH.all aj av aD,b4];exact ab
theorem xB{op:BinOp}{t dx:TypeId}{x y:Operand}{a c:Bool}{v:Value}(ah:o.op=.binOp op t x y dx)(U:bx l x=some (.bool a))(au:bx l y=some (.bool c))(eg:op=.eql/\v=.bool (decide (a=c))\/op=.neq/\v=.bool (decide (¬a=c)))(aJ:K.P.underlying t=some .bool):cO K B o n ds l m J v:=by
 intro call aE S H aj av;unfold cj eF;simp only[ah];show lX K.P _ op t (a1 S.T H x) (a1 S.T H y)=_;rw[c6 aj H U,c6 aj H au];show orElse (fl K.P S.T H o) _=_;have Aa:e0 K.P (Op.equal t (.bool a) (.bool c))=some (decide (a=c)):=by
  show e0 K.P (Op.equalIn (9999+1) t (.bool a) (.bool c))=_;unfold Op.equalIn;rw[gM (NA aJ)];show some (a==c)=_;cases a<;>cases c<;>rfl
 have:fl K.P S.T H o=some (.val v H):=by
  rcases eg with⟨rfl,rfl⟩|⟨rfl,rfl⟩
  ·refine qn aj (by rw[ah];rfl) U au rfl rfl ?_ rfl;unfold execOp;simp only[ah];rw[hN aj H U,hN aj H au];have ai:binOp .eql t (.bool a) (.bool c)=(do pure (.bool (<-Op.equal t (.bool a) (.bool c)))):=by simp[binOp]
   have ax:e0 K.P (eqGuard .eql t x y (.bool a) (.bool c))=some ():=rfl;rw[gM (a:=.bool (decide (a=c)))]
   ·rfl
   rw[gM ax,ai,gM Aa];rfl
  ·refine qn aj (by rw[ah];rfl) U au rfl rfl ?_ rfl;unfold execOp;simp only[ah];rw[hN aj H U,hN aj H au];have ai:binOp .neq t (.bool a) (.bool c)=(do pure (.bool (!(<-Op.equal t (.bool a) (.bool c))))):=by simp[binOp]
   have ax:e0 K.P (eqGuard .neq t x y (.bool a) (.bool c))=some ():=rfl;rw[gM (a:=.bool (decide (¬a=c)))]
   ·rfl
   rw[gM ax,ai,gM Aa];show some (Value.bool (!decide (a=c)))=_;rw[show(!decide (a=c))=decide (¬a=c) by simp]
 rw[this];rfl
theorem aaO(b:Bool)(n:Nat):eJ (n+1) (.bool b) (.bool b)=true:=by cases b<;>rfl
theorem aB.aeq{c:Code}(k:Nat)(news:List (Nat×Value))(ab:aB K B c ⟨n,ds,l⟩ m J fun e E' m' ae=>match e with
 |.normal=>(∃l',E'=⟨n,ds,l'⟩/\kl l' (news++l.drop k))/\m.Sublist m'/\J.le ae
 |e=>cd e E' m' ae)(ad:∀ae,J.le ae->cd .normal ⟨n,ds,news++l.drop k⟩ m ae):aB K B c ⟨n,ds,l⟩ m J cd:=by
 intro S H aj av;obtain⟨e,aC,H',E',cL,ae,aU,aQ,bj,ct⟩:=ab S H aj av;cases e with
 |normal=>
  obtain⟨⟨l',rfl,fo⟩,jN,oD⟩:=ct;exact⟨_,aC,H',_,m,_,aU,aQ.sub fo,bj.sub jN,ad _ oD⟩
 |exit i=>exact⟨_,aC,H',_,_,_,aU,aQ,bj,ct⟩
 |goto i=>exact⟨_,aC,H',_,_,_,aU,aQ,bj,ct⟩
 |ret=>exact⟨_,aC,H',_,_,_,aU,aQ,bj,ct⟩
 |panic c=>exact⟨_,aC,H',_,_,_,aU,aQ,bj,ct⟩
 |outgrown=>exact⟨_,aC,H',_,_,_,aU,aQ,bj,ct⟩
theorem mY.get{gi:Option Addr}{Qx vT:Nat}{N:List Int}(h:mY J (.slice gi Qx vT) N):Qx=N.length/\(gi=none->N=[])/\(0<N.length->∃a off cells e,gi=some ⟨a,off,none⟩/\J a=some (cells,e)/\∀(i:Int),0<=i->i<N.length->∃x,N[i.toNat]?=some x/\nth cells (off+i.toNat*1)=some (.int .i64 x)):=by
 obtain⟨b,c,ab,ad,aL⟩:=h.inv;injection ab with a6 fb fX
 subst a6;subst fb;subst fX;exact⟨rfl,ad,aL⟩
end
section
variable {K:dy}{B:c5}{ops:List Oper}{aX:List iG}{E:b0}{m m':aO}{J:af}{o:Oper}{ba:b0->aO->af->Prop}{cd:Exit->b0->aO->af->Prop}
variable {n:Nat}{ds:dJ}{l:List (Nat×Value)}{d i:Nat}
end
section
variable {K:dy}{B:c5}{ops:List Oper}{aX:List iG}{F:List (FuncId×List Value)}{m m':aO}{J:af}{o:Oper}{ba:b0->aO->af->Prop}
variable {n:Nat}{ds:dJ}{l:List (Nat×Value)}{d i:Nat}
theorem anj{S:aV}(aj:Sat ⟨n,ds,l⟩ S):∀{xs:List (Nat×Operand)} {vs:List (Nat×Value)},s9 l xs=some vs->so S.T xs=some vs:=by
 intro xs;induction xs with
 |nil=>intro vs h;exact h
 |cons x r aP=>
  obtain⟨i,x⟩:=x;intro vs h;simp only[s9] at h;simp only[so];cases U:bx l x with
  |none=>rw[U] at h;cases h
  |some v=>
   rw[U] at h;simp only at h;rw[Q3 aj U];simp only;cases aq:s9 l r with
   |none=>rw[aq] at h;cases h
   |some ws=>rw[aq] at h;simp only at h;rw[aP aq];exact h
theorem cm.buildSlice{t e:TypeId}{k sz:Nat}{zs cells:List Value}{ps:Array (Nat×Operand)}{vs:List (Nat×Value)}(ak:nth ops i=some o)(ax:o.guard=none)(ah:o.op=.buildSlice t k ps)(al:o.dst=some d)(az:Nat.blt d n=true)(ao:s9 l ps.toList=some vs)(aJ:mr K.P t=some (e,sz,zs))(hk:(Nat.ble k 100000&&Nat.ble (k*sz) 100000)=true)(aA:m8 (fun i=>some (i*sz,sz)) (fp zs k) vs=some cells)(ab:cells.all eV=true)
 (h:∀a,cm K B ops aX F ⟨n,ds,(d,.slice (some ⟨a,0,none⟩) k k)::l⟩ ((a,.row cells e)::m) J ba):cm K B ops (.ir i::aX) F ⟨n,ds,l⟩ m J ba:=by
 obtain⟨hu,dF,iL,z,hF,aG,bs,rfl,bM,cB,ep⟩:=sw aJ;refine cm.ir (b:=.row cells e false 0 0 false) (p:=.row cells e) (ei:=.A7 k k) ak ax al az (fun S aj=>?_) (fun H a q=>q) (fun c e r z q=>by cases q) h;rw[ah];simp only[m2];rw[anj aj ao];simp only[Eo,hu,dF,aG];rw[hk,ep,show Nat.beq z.cells.toList.length sz=true by rw[bM];exact hd _];simp only[vy,b4,aA,ab]
end
open Classical
def rowOf (w:World)(g:Nat):Option (List Value×TypeId):=match w.heap[g]? with
 |some (.cells c e _)=>some (c.toList,e)
 |_=>none
theorem Zj{w:World}{g:Nat}{cs:List Value}{e:TypeId}(h:rowOf w g=some (cs,e)):∃c f,w.heap[g]?=some (.cells c e f)/\c.toList=cs:=by
 unfold rowOf at h;split at h
 ·rename_i c bC f aD;injection h with h;injection h with ab ad
  subst ab;subst ad;exact⟨c,f,aD,rfl⟩
 ·cases h
theorem Rl{w:World}{g:Nat}{c:Array Value}{e:TypeId}{f:Nat×Nat}(h:w.heap[g]?=some (.cells c e f)):rowOf w g=some (c.toList,e):=by
 unfold rowOf;rw[h]
def pq (P:Program)(w:World):bL:=fun g=>match rowOf w g with
 |some (cs,e)=>some ⟨g,cs.length,P.cellsOf e⟩
 |none=>none
theorem GM{P:Program}{w:World}{g:Nat}{L:Cre.Loc}(h:pq P w g=some L):∃cs e,rowOf w g=some (cs,e)/\L=⟨g,cs.length,P.cellsOf e⟩:=by
 unfold pq at h;cases aq:rowOf w g with
 |none=>rw[aq] at h;cases h
 |some x=>obtain⟨cs,e⟩:=x;rw[aq] at h;injection h with h;exact⟨cs,e,rfl,h.symm⟩
theorem XY{P:Program}{w:World}{g:Nat}(h:(rowOf w g).isSome):∃L,pq P w g=some L/\L.r=g:=by
 obtain⟨⟨cs,e⟩,U⟩:=Option.isSome_iff_exists.1 h;unfold pq;rw[U];exact⟨_,rfl,rfl⟩
theorem Tt{μ:bL}:∀(n:Nat) (v:Value),SizeOf.sizeOf v<=n->∃v0,bg μ v0 v:=by
 intro n;induction n with
 |zero=>intro v h;cases v<;>simp at h
 |succ n aP=>
  intro v h;have arr:∀cs:Array Value,SizeOf.sizeOf cs<=n->∃bV:Array Value,bV.size=cs.size/\∀(i:Nat) v v',bV[i]?=some v->cs[i]?=some v'->bg μ v v':=fun cs hs=>by
   have key:∀i:Fin cs.size,∃v0,bg μ v0 cs[i]:=fun i=>aP _ (by have:=Array.sizeOf_getElem cs i.1 i.2;have e:cs[i]=cs[i.1]:=rfl;rw[e];omega);refine⟨Array.ofFn fun i=>Classical.choose (key i),by simp,fun i v v' ab ad=>?_⟩;rw[Array.getElem?_ofFn] at ab;split at ab
   ·rename_i ak;injection ab with ab;subst ab
    rw[zf ak] at ad;injection ad with ad;subst ad
    exact Sv (key ⟨i,ak⟩)
   ·cases ab
  by_cases ah:eV v=true
  ·exact⟨_,.xF v ah⟩
  ·cases v with
   |agg cs=>
    obtain⟨bV,ab,ad⟩:=arr cs (by simp at h;omega);exact⟨_,.agg bV cs ab ad⟩
   |tuple cs=>
    obtain⟨bV,ab,ad⟩:=arr cs (by simp at h;omega);exact⟨_,.tuple bV cs ab ad⟩
   |_=>exact absurd rfl ah
def gx (P:Program)(w:World)(v:Value):Value:=match v with
 |.pointer (some ⟨r,off,none⟩)=>if(rowOf w r).isSome then v else .chan none
 |.slice (some a) len cap=>if a.spot=none/\(rowOf w a.block).isSome/\cap<cG then v else if len=0/\cap=0 then .slice (some ⟨0,0,some 0⟩) 0 0 else .chan none
 |v=>if isAtom v=true then v else Classical.choose (Tt (μ:=pq P w) (SizeOf.sizeOf v) v (bF _))
theorem El{P:Program}{w:World}{v:Value}(h:isAtom v=true):gx P w v=v:=by
 unfold gx;split
 ·simp[isAtom] at h
 ·simp[isAtom] at h
 ·rw[a2 h]
theorem IE{P:Program}{w:World}(v:Value):bg (pq P w) (gx P w v) v:=by
 unfold gx;split
 ·rename_i r off;split
  ·rename_i q;obtain⟨L,ab,ad⟩:=XY (P:=P) q;have:=bg.ptr r off L ab;rwa [ad] at this
  ·exact .xF _ rfl
 ·rename_i a len cap;split
  ·rename_i q;obtain⟨r,off,sp⟩:=a;obtain⟨hT,aK,aH⟩:=q;have hT:sp=none:=hT;subst hT;obtain⟨L,ab,ad⟩:=XY (P:=P) aK;have ad:L.r=r:=ad;have:=bg.nu r off len cap L ab aH;rwa [ad] at this
  ·split
   ·rename_i q;obtain⟨rfl,rfl⟩:=q;exact .xv a
   ·exact .xF _ rfl
 ·split
  ·exact .atom _ (by assumption)
  ·exact Sv (Tt (μ:=pq P w) (SizeOf.sizeOf v) v (bF _))
def tS (P:Program)(w:World)(g:Nat):Option (List Value×TypeId):=match rowOf w g with
 |some (cs,e)=>some (cs.map (gx P w),e)
 |none=>none
theorem Zf{P:Program}{w:World}{g:Nat}{cs:List Value}{e:TypeId}(h:tS P w g=some (cs,e)):∃c,rowOf w g=some (c,e)/\cs=c.map (gx P w):=by
 unfold tS at h;split at h
 ·rename_i c bC q;injection h with h;injection h with ab ad
  subst ab;subst ad;exact⟨c,q,rfl⟩
 ·cases h
theorem La{P:Program}{w:World}{g:Nat}{cs:List Value}{e:TypeId}(h:rowOf w g=some (cs,e)):tS P w g=some (cs.map (gx P w),e):=by
 unfold tS;rw[h]
def BX (P:Program)(w:World)(g:Nat):e3:=match tS P w g with
 |some (cs,e)=>.row cs e false 0 cs.length true
 |none=>.dead
def AI (P:Program)(w:World):aW e3:=match xz ((List.range w.heap.size).map (BX P w)) 0 .leaf with|some t=>t|none=>.leaf
theorem Kq{P:Program}{w:World}(g:Nat):(AI P w).get g=if g<w.heap.size then some (BX P w g) else none:=by
 obtain⟨T,b1⟩:=aaq ((List.range w.heap.size).map (BX P w)) 0 .leaf (fun k hk=>absurd hk (by omega));unfold AI;rw[b1];simp only
 rw[RO b1];simp only[df,true_and,eP,List.length_range,kH,Nat.sub_zero];split
 ·rename_i h;rw[j6,SP h];rfl
 ·rfl
def wP (P:Program)(w:World):an:=⟨AI P w,w.heap.size,.leaf,0,w.heap.size⟩
theorem Zg{P:Program}{w:World}{g:Nat}{x:List Value×TypeId}(h:tS P w g=some x):g<w.heap.size:=by
 obtain⟨cs,e⟩:=x;obtain⟨c,ab,_⟩:=Zf h;obtain⟨c',f,ad,_⟩:=Zj ab;exact(LK.1 ad).1
theorem V9{P:Program}{w:World}{g:Nat}{cs:List Value}{e:TypeId}(h:tS P w g=some (cs,e)):(wP P w).mem.get g=some (.row cs e false 0 cs.length true):=by
 show(AI P w).get g=_;rw[Kq,a2 (Zg h)];unfold BX;rw[h]
theorem V8{P:Program}{w:World}{g:Nat}{b:e3}(h:(wP P w).mem.get g=some b):g<w.heap.size/\(b=.dead\/∃cs e,tS P w g=some (cs,e)/\b=.row cs e false 0 cs.length true):=by
 have h:(AI P w).get g=some b:=h;rw[Kq] at h;split at h
 ·rename_i ax;refine⟨ax,?_⟩;injection h with h
  unfold BX at h;cases aq:tS P w g with
  |none=>rw[aq] at h;exact .inl h.symm
  |some x=>obtain⟨cs,e⟩:=x;rw[aq] at h;exact .inr ⟨cs,e,rfl,h.symm⟩
 ·cases h
theorem agm(P:Program)(w:World):bX P (fun k=>k<w.heap.size) w (pq P w) (wP P w) w:=by
 have mlt:∀x L,pq P w x=some L->x<w.heap.size:=fun x L U=>by
  obtain⟨cs,e,ab,_⟩:=GM U;exact Zg (La (P:=P) ab)
 refine⟨Kept.refl _ _,fun _ hk=>hk,?_,?_,mlt,?_,?_,?_,bF _,?_,?_,?_⟩
 ·intro g L q;obtain⟨c,e,ad,rfl⟩:=GM q;obtain⟨c',f,aL,rfl⟩:=Zj ad;refine⟨_,_,V9 (La ad),aL,rfl,by simp,rfl,by simp,fun _=>by simp,fun i v v' x y=>?_,⟨fun off ah _ _=>by simpa using ah,fun q=>by cases q⟩⟩;rw[j6] at x;have mv:c'.toList[i]?=some v':=by simpa using y
  rw[mv] at x;injection x with x;subst x
  exact IE v'
 ·intro x y ht hz ew U au aq;obtain⟨_,_,_,rfl⟩:=GM U;obtain⟨_,_,_,rfl⟩:=GM au;exact absurd aq ew
 ·intro x L U _;obtain⟨_,_,_,rfl⟩:=GM U;rfl
 ·intro x L U ax _;have:=mlt x L U;have ax:w.heap.size<=x:=ax;omega
 ·intro g c e o f z s _ hm;obtain⟨ax,q⟩:=V8 hm;rcases q with q|⟨cs,bC,aK,aH⟩
  ·cases q
  ·obtain⟨vT,ab,_⟩:=Zf aK;refine⟨⟨g,vT.length,P.cellsOf bC⟩,?_⟩;unfold pq;rw[ab]
 ·intro x c e f z s hm;obtain⟨_,q⟩:=V8 hm;rcases q with q|⟨_,_,_,q⟩<;>cases q
 ·intro f l x ap;cases ap
 ·intro f l ap;cases ap
def kW (P:Program)(w:World):af:=tS P w
theorem akp(P:Program)(w:World):Inv w.heap.size (hS [] (wP P w) (kW P w)) (kW P w) [] (wP P w):=by
 refine⟨⟨fun a aF=>?_,fun a aF=>?_,fun f aA=>absurd aA (Ee _),fun f _=>rfl,bF _⟩,rfl,bF _,bF _,fun _ _ _=>rfl,fun _ _=>rfl,fun a c e h=>?_,af.le.refl _,fun a x ab ad=>?_,fun a b h=>(by cases h),(fun a b h=>by cases h),List.nodup_nil⟩
 ·refine⟨BX P w a,?_⟩;show(AI P w).get a=_;rw[Kq,a2 (show a<w.heap.size from aF)]
 ·show(AI P w).get a=none;rw[Kq,aZ (by have aF:w.heap.size<=a:=aF;omega)]
 ·exact⟨_,_,_,_,V9 h⟩
 ·rw[show kW P w a=none from ab] at ad;cases ad
section
variable {K:dy}
theorem am5{w:World}{f:FuncId}{fn:Func}{c:Code}{args:List Value}{bP:Array Value}{b:Bool}(fY:K.Q.ok (fun k=>k<w.heap.size) w)(ax:K.g0=w.heap.size)(aA:K.P.funcs[f]?=some fn)(ai:fn.body=some c)(ap:bT (pq K.P w) args bP.toList)(b3:Fn K f args [] (kW K.P w) (fun v m J=>v=.bool b)):
 Calls K.P f bP w fun e a5=>e=.returned (.bool b)/\Below w.heap.size w a5:=by
 have av:Inv K.g0 (hS [] (wP K.P w) (kW K.P w)) (kW K.P w) [] (wP K.P w):=by rw[ax];exact akp K.P w
 obtain⟨v,H',ae,m',ab,ad,rfl⟩:=b3 (wP K.P w) av;have hs:=ab _ w fY f args (wP K.P w) (.returned (.bool b)) H' (by unfold ka;rw[a2 ⟨rfl,rfl,rfl⟩]) (pq K.P w) w bP.toList (agm K.P w) ap;rcases hs with⟨v,v',a5,bf,_,q,_⟩|⟨_,q⟩
 ·rw[EY aA ai (K.cw.num f fn aA (by rw[ai];rfl))] at q;cases q
 ·refine Calls.mono q fun bC a5 bI=>?_;obtain⟨bf,bY,bZ,cz⟩:=bI;cases bC with
  |returned v'=>
   have ar:bg bf (.bool b) v':=cz;rw[ar.Ev];exact⟨rfl,bY.below.below⟩
  |panicked c=>exact cz.elim
  |outgrown=>exact cz.elim
theorem Fn.closed{H0:an}{f:FuncId}{fn:Func}{c:Code}{v:Value}{J:af}(ao:plain v=true)(aA:K.P.funcs[f]?=some fn)(ai:fn.body=some c)(bu:∀B w,K.Q.ok B w->Laid K.P w H0/\H9 H0 B)
 (aD:∀w,Laid K.P w H0->Calls K.P f #[] w fun e a5=>e=.returned v/\Below w.heap.size w a5):Fn K f [] [] J (fun u m' ae=>u=v/\m'=[]/\ae=J):=by
 intro H av;refine⟨v,H,J,[],fun B w0 fY=>?_,av,rfl,rfl,rfl⟩;obtain⟨wI,eh⟩:=bu B w0 fY;intro f' bP H' e mV he μ w asj h ap;unfold ka at he;split at he
 ·rename_i q;obtain⟨rfl,rfl,rfl⟩:=q;simp only[cl,dm] at he;obtain⟨rfl,rfl⟩:=he;obtain rfl:=ap.kz;refine .inr ⟨EY aA ai (K.cw.num f' fn aA (by rw[ai];rfl)) _ w,?_⟩;refine Calls.mono (aD w (wI.fF eh h.below)) fun bC a5 ⟨p1,q3⟩=>?_;subst p1;exact⟨μ,h.grow q3,Step.refl _ _,py ao⟩
 ·cases he
def R6(P:Program)(H0:an):cZ P where
 ok B w:=Laid P w H0/\H9 H0 B
 up B w0 hV ie h eh hk:=⟨h.1.fF h.2 hk,fun g b ax ai=>eh g (h.2 g b ax ai)⟩
end
end
end Go.Opn

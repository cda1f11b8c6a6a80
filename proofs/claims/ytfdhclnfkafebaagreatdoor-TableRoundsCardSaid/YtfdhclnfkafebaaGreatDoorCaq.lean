/- A part of the proof of TableRounds. -/
import Derived.Test.YtfdhclnfkafebaaGreatDoorCap
import Derived.Test.YtfdhclnfkafebaaGreatDoorCal
set_option linter.unusedVariables false
set_option linter.unusedSimpArgs false
namespace Go.Opn
noncomputable section
open Go.Cre Go.RowKit
section
variable {K:ef}{B:dy}{o:Oper}{n:Nat}{ds:eK}{l:List (Nat×Value)}{m m':a8}{J:an}{e8:cC->a8->an->Prop}{d:Nat}
theorem zu{t:TypeId}{x:Operand}{k:IntKind}{a b:Int}(aj:o.op=.unOp .neg t x)(ab:bT l x=some (.int k a))(hw:k.wrap (-a)=b):c5 K B o n ds l m J (.int k b):=by
 intro call aQ S H ax aH;unfold cL e3;simp only[aj];show fk K.P S.T H o=_;refine YJ ax (by rw[aj];rfl) ab rfl ?_ rfl;unfold execOp;simp only[aj];rw[hS ax H ab,<-hw];show some (Next.value (.int k (k.wrap (0 -a))))=_;rw[Int.zero_sub]
end
section
variable {K:ef}{B:dy}{ops:List Oper}{a':List jP}{F:List (FuncId×List Value)}{E:cC}{m:a8}{J:an}{bF:cC->a8->an->Prop}
end
open Classical
def tp (f:FuncId)(args:List Value)(bE:FrameMode)(H:aw)(r:Ending×FrameMode×aw):FuncId->List Value->Bool->FrameMode->aw->Option (Ending×FrameMode×aw):=fun f' cq cb gL H'=>if f'=f/\cq=args/\cb=true/\gL=bE/\H'=H then some r else none
def BV{P:Program}(Q:dD P)(f:FuncId)(args:List Value)(bE:FrameMode)(H:aw)(e:Ending)(gL:FrameMode)(H':aw):Prop:=∀B w0,Q.ok B w0->ux P B w0 (tp f args bE H (e,gL,H'))
def qP {P:Program}(Q:dD P)(fg:Code->a5->aw->Option (Exit×a5×aw))(zc:FuncId->List Value->Bool->FrameMode->aw->Option (Ending×FrameMode×aw)):fN:=
 ⟨to Q fg,fun f args cb bE H=>if cb=true then(match zc f args cb bE H with
  |some (e,iF,H')=>if BV Q f args bE H e iF H' then some (e,iF,H') else none
  |none=>none) else none⟩
section
variable {P:Program}{Q:dD P}{B:Nat->Prop}{w0:World}
theorem SI(fg:Code->a5->aw->Option (Exit×a5×aw))(zc:FuncId->List Value->Bool->FrameMode->aw->Option (Ending×FrameMode×aw))(gq:Q.ok B w0):ux P B w0 (qP Q fg zc).body:=by
 intro f args bE H e gL H' he;unfold qP at he;simp only[Kz] at he;split at he
 ·split at he
  ·rename_i c0;simp only[cD,dK] at he;obtain⟨rfl,rfl,rfl⟩:=he;exact c0 B w0 gq f args bE H _ _ _ (by unfold tp;rw[bj ⟨rfl,rfl,rfl,rfl,rfl⟩])
  ·cases he
 ·cases he
theorem aa6(fg:Code->a5->aw->Option (Exit×a5×aw)){f:FuncId}{args:List Value}{bE gL:FrameMode}{H H':aw}{e:Ending}(h:BV Q f args bE H e gL H'):(qP Q fg (tp f args bE H (e,gL,H'))).body f args true bE H=some (e,gL,H'):=by
 unfold qP;simp only[Kz];have:tp f args bE H (e,gL,H') f args true bE H=some (e,gL,H'):=by unfold tp;rw[bj ⟨rfl,rfl,rfl,rfl,rfl⟩]
 rw[this];simp only;rw[bj h]
def DJ:FuncId->List Value->Bool->FrameMode->aw->Option (Ending×FrameMode×aw):=fun _ _ _ _ _=>none
theorem kS.LB{fF:a4 Func}(cX:td P fF){f:FuncId}{fn:Func}{c:Code}{args:List Value}{T:a4 Value}{H H1 H':aw}{bl:a5}{x:Exit}{e:Ending}{bE:FrameMode}(zc:FuncId->List Value->Bool->FrameMode->aw->Option (Ending×FrameMode×aw))(aM:fF.get f=some fn)(ak:fn.body=some c)(aI:nS args 0 (Go.Cre.blank fn.ntmps)=some T)
 (aJ:dX Q c ⟨T,fn.ntmps,[],false,.run,none⟩ H x bl H1)(he:wi P (qP Q (lV c ⟨T,fn.ntmps,[],false,.run,none⟩ H (x,bl,H1)) zc) fn (some (x,bl,H1))=some (e,bE,H')):kS Q f args H e H':=by
 intro B w0 gq f1 uN p3 aC Iv tG;unfold nU at tG;split at tG
 ·rename_i q;obtain⟨rfl,rfl,rfl⟩:=q;simp only[cD,dK] at tG;obtain⟨rfl,rfl⟩:=tG;refine ND (E:=qP Q (lV c ⟨T,fn.ntmps,[],false,.run,none⟩ p3 (x,bl,H1)) zc) cX (Co _ gq) (SI _ zc gq) f1 uN p3 _ _ ?_;unfold fN.call;simp only
  have:sd P fF (qP Q (lV c ⟨T,fn.ntmps,[],false,.run,none⟩ p3 (x,bl,H1)) zc) f1 uN false .run p3=some (e,bE,H'):=by
   unfold sd;rw[aM];show ET P _ f1 fn uN false .run p3 fn.body=_;rw[ak];show EU P _ fn c false .run p3 (nS uN 0 (Go.Cre.blank fn.ntmps))=_;rw[aI];show wi P _ fn (to Q _ c ⟨T,fn.ntmps,[],false,.run,none⟩ p3)=_;rw[Cn aJ];exact he
  rw[this]
 ·cases tG
theorem BV.run{fF:a4 Func}(cX:td P fF){f:FuncId}{fn:Func}{c:Code}{args:List Value}{T:a4 Value}{H H1 H':aw}{bl:a5}{x:Exit}{e:Ending}{u bE:FrameMode}(aM:fF.get f=some fn)(ak:fn.body=some c)(aI:nS args 0 (Go.Cre.blank fn.ntmps)=some T)
 (aJ:dX Q c ⟨T,fn.ntmps,[],true,u,none⟩ H x bl H1)(he:wi P (qP Q (lV c ⟨T,fn.ntmps,[],true,u,none⟩ H (x,bl,H1)) DJ) fn (some (x,bl,H1))=some (e,bE,H')):BV Q f args u H e bE H':=by
 intro B w0 gq f1 uN u1 p3 aC R5 Iv tG;unfold tp at tG;split at tG
 ·rename_i q;obtain⟨rfl,rfl,_,rfl,rfl⟩:=q;simp only[cD,dK] at tG;obtain⟨rfl,rfl,rfl⟩:=tG;refine UL (E:=qP Q (lV c ⟨T,fn.ntmps,[],true,u1,none⟩ p3 (x,bl,H1)) DJ) cX (Co _ gq) (SI _ DJ gq) f1 uN u1 p3 _ _ _ ?_;unfold sd;rw[aM];show ET P _ f1 fn uN true u1 p3 fn.body=_;rw[ak];show EU P _ fn c true u1 p3 (nS uN 0 (Go.Cre.blank fn.ntmps))=_;rw[aI];show wi P _ fn (to Q _ c ⟨T,fn.ntmps,[],true,u1,none⟩ p3)=_;rw[Cn aJ];exact he
 ·cases tG
end
section
variable {K:ef}{B:dy}{f:FuncId}{fn:Func}{c:Code}{args:List Value}{cj:a8}{J:an}
def s'(K:ef)(f:FuncId)(args:List Value)(cj:a8)(J:an)(lg:Value->a8->an->Prop)(mz:List PanicEntry->a8->an->Prop):Prop:=
 ∀H,Inv K.g0 (ky cj H J) J cj H->∃H' ah m',Inv K.g0 (ky cj H J) ah m' H'/\((∃v,kS K.Q f args H (.returned v) H'/\lg v m' ah)\/∃ct,kS K.Q f args H (.panicked ct) H'/\mz ct m' ah)
theorem s'.Za{lg:Value->a8->an->Prop}(h:s' K f args cj J lg fun _ _ _=>False):Fn K f args cj J lg:=fun H aH=>by
 obtain⟨H',ah,m',ad,af⟩:=h H aH;rcases af with⟨v,aV,bq⟩|⟨ct,aV,bq⟩
 ·exact⟨v,H',ah,m',aV,ad,bq⟩
 ·exact bq.elim
def p1(K:ef)(f:FuncId)(args:List Value)(bE:FrameMode)(cj:a8)(J:an)(ek:FrameMode->a8->an->Prop):Prop:=
 ∀H,Inv K.g0 (ky cj H J) J cj H->∃v gL H' ah m',BV K.Q f args bE H (.returned v) gL H'/\Inv K.g0 (ky cj H J) ah m' H'/\ek gL m' ah
def UB(bE:FrameMode):eK:=⟨[],none,true,bE⟩
theorem TT{fn:Func}{args:List Value}{ht:eK}(aD:Nat.ble args.length fn.ntmps=true):∃T,nS args 0 (Go.Cre.blank fn.ntmps)=some T/\∀cb bE,ht=⟨[],none,cb,bE⟩->Sat ⟨fn.ntmps,ht,yk args 0⟩ ⟨T,fn.ntmps,[],cb,bE,none⟩:=by
 obtain⟨T,bO,bA,cU⟩:=TU (vs:=args) (i:=0) (n:=fn.ntmps) (T3 fn.ntmps) (by have:=hZ aD;omega);refine⟨T,bO,fun cb bE aq=>?_⟩;subst aq;refine⟨rfl,rfl,rfl,rfl,rfl,bA,fun t v q=>?_⟩;obtain⟨_,aU⟩:=TS q;show T.get t=some v;have:t<args.length:=by
  rcases iK t args.length with r|r
  ·exact r
  ·rw[qT (by omega)] at aU;cases aU
 rw[cU,bj (by omega)];exact aU
theorem p1.cr{bE:FrameMode}{ek:FrameMode->a8->an->Prop}(aM:K.fF.get f=some fn)(ak:fn.body=some c)(aD:Nat.ble args.length fn.ntmps=true)
 (h:∀H,ae K (ky cj H J) c ⟨fn.ntmps,UB bE,yk args 0⟩ cj J fun e E m ah=>(e=.normal\/e=.ret)/\E.ds.ds=[]/\∃vs m',pa K.P E m ah fn.results.toList vs/\m'.Sublist m/\ek E.ds.bE m' ah):p1 K f args bE cj J ek:=by
 intro H aH;obtain⟨T,bO,bA⟩:=TT (ht:=UB bE) aD;have ax:=bA true bE rfl;obtain⟨e,aP,H',cV,c1,ah,a7,a0,bJ,cO,gj,vs,m',jJ,oS,rp⟩:=h H _ H ax aH;have wU:aP.ds=[]:=a0.ds.trans gj;have av:=jJ.yy a0 bJ;refine⟨tZ vs,aP.bE,H',ah,m',?_,bJ.sub oS,by rw[a0.bE];exact rp⟩;refine BV.run K.cX aM ak bO a7 ?_;rcases cO with rfl|rfl
 ·show r7 aP.bE (iY K.P _ fn aP.T aP.ds .returning H')=_;rw[wU];unfold iY;rw[av];rfl
 ·show r7 aP.bE (iY K.P _ fn aP.T aP.ds .returning H')=_;rw[wU];unfold iY;rw[av];rfl
def KR:Exit->Option FrameMode
 |.normal=>some .returning
 |.ret=>some .returning
 |.panic ct=>some (.panicking ct)
 |_=>none
def Ends(K:ef)(fn:Func)(E:cC)(m:a8)(J:an)(u:FrameMode)(lg:Value->a8->an->Prop)(mz:List PanicEntry->a8->an->Prop):Prop:=
 (u=.returning/\∃vs m',pa K.P E m J fn.results.toList vs/\m'.Sublist m/\lg (tZ vs) m' J)\/∃ct m',u=.panicking ct/\m'.Sublist m/\mz ct m' J
def Leaves(K:ef)(fn:Func)(e:Exit)(E:cC)(m:a8)(J:an)(lg:Value->a8->an->Prop)(mz:List PanicEntry->a8->an->Prop):Prop:=
 ∃u,KR e=some u/\((E.ds.ds=[]/\Ends K fn E m J u lg mz)\/
  ∃fd cap uV cj eB,E.ds.ds=[⟨.fn (.func fd) cap,uV⟩]/\(cj++eB).Perm m/\p1 K fd (uV.toList++cap.toList) u cj J fun iF m' ah=>J.le ah->Ends K fn E (m'++eB) ah (settle iF) lg mz)
theorem Jj{P:Program}{E:fN}{e:Exit}{u:FrameMode}{S:a5}{H:aw}(h:KR e=some u):wi P E fn (some (e,S,H))=r7 S.bE (iY P E fn S.T S.ds u H):=by
 cases e<;>first|(injection h with h;subst h;rfl)|cases h
theorem Ends.yy{E:cC}{m:a8}{u:FrameMode}{lg:Value->a8->an->Prop}{mz:List PanicEntry->a8->an->Prop}{S:a5}{H:aw}{V:fN}(h:Ends K fn E m J u lg mz)(ax:Sat E S)(aH:Inv K.g0 B J m H):
 ∃m',Inv K.g0 B J m' H/\((∃v,iY K.P V fn S.T [] u H=some (.returned v,H)/\lg v m' J)\/∃ct,iY K.P V fn S.T [] u H=some (.panicked ct,H)/\mz ct m' J):=by
 rcases h with⟨rfl,vs,m',ad,af,aV⟩|⟨ct,m',rfl,af,aV⟩
 ·refine⟨m',aH.sub af,.inl ⟨tZ vs,?_,aV⟩⟩;unfold iY;rw[ad.yy ax aH]
 ·exact⟨m',aH.sub af,.inr ⟨ct,by unfold iY;rfl,aV⟩⟩
theorem ak4{e:Exit}{u:FrameMode}(h:KR e=some u):KC u=false:=by
 cases e<;>first|(injection h with h;subst h;rfl)|cases h
theorem s'.cr{lg:Value->a8->an->Prop}{mz:List PanicEntry->a8->an->Prop}(aM:K.fF.get f=some fn)(ak:fn.body=some c)(aD:Nat.ble args.length fn.ntmps=true)
 (h:∀H,ae K (ky cj H J) c ⟨fn.ntmps,Ju,yk args 0⟩ cj J fun e E m ah=>Leaves K fn e E m ah lg mz):s' K f args cj J lg mz:=by
 intro H aH;obtain⟨T,bO,bA⟩:=TT (ht:=Ju) aD;have ax:=bA false .run rfl;obtain⟨e,aP,H',cV,c1,ah,a7,a0,bJ,u,cO,gj⟩:=h H _ H ax aH;have JP:=a0.ds;rcases gj with⟨gj,jJ⟩|⟨fd,cap,uV,ath,eB,gj,jJ,oS⟩
 ·obtain⟨m',ad,af⟩:=jJ.yy (V:=qP K.Q (lV c ⟨T,fn.ntmps,[],false,.run,none⟩ H (e,aP,H')) DJ) a0 bJ;refine⟨H',ah,m',ad,?_⟩;rcases af with⟨v,af,aV⟩|⟨ct,af,aV⟩
  ·refine .inl ⟨v,kS.LB K.cX DJ aM ak bO a7 (bE:=aP.bE) ?_,aV⟩;rw[Jj cO,JP,gj,af];rfl
  ·refine .inr ⟨ct,kS.LB K.cX DJ aM ak bO a7 (bE:=aP.bE) ?_,aV⟩;rw[Jj cO,JP,gj,af];rfl
 ·obtain⟨v,gL,cz,dT,fq,d1,d2,d3⟩:=oS H' (bJ.enter jJ trivial);obtain⟨rp,Qi⟩:=bJ.leave jJ d2;obtain⟨m',ad,af⟩:=(d3 Qi).yy (V:=qP K.Q (lV c ⟨T,fn.ntmps,[],false,.run,none⟩ H (e,aP,H')) (tp fd (uV.toList++cap.toList) u H' (.returned v,gL,cz))) a0 rp
  have vj:∀r,iY K.P (qP K.Q (lV c ⟨T,fn.ntmps,[],false,.run,none⟩ H (e,aP,H')) (tp fd (uV.toList++cap.toList) u H' (.returned v,gL,cz))) fn aP.T [] (settle gL) cz=some r->
   iY K.P (qP K.Q (lV c ⟨T,fn.ntmps,[],false,.run,none⟩ H (e,aP,H')) (tp fd (uV.toList++cap.toList) u H' (.returned v,gL,cz))) fn aP.T [⟨.fn (.func fd) cap,uV⟩] u H'=some r:=fun r av=>by
   rw[iY];rw[ak4 cO,dB];simp only
   show(match kY K.P H' (.func fd) uV.toList cap.toList with|none=>none|some (f,args)=>_)=_
   unfold kY;simp only
   rw[aa6 _ d1];exact av
  refine⟨cz,dT,m',ad,?_⟩;rcases af with⟨w,af,aV⟩|⟨ct,af,aV⟩
  ·refine .inl ⟨w,kS.LB K.cX (tp fd (uV.toList++cap.toList) u H' (.returned v,gL,cz)) aM ak bO a7 (bE:=aP.bE) ?_,aV⟩;rw[Jj cO,JP,gj,vj _ af];rfl
  ·refine .inr ⟨ct,kS.LB K.cX (tp fd (uV.toList++cap.toList) u H' (.returned v,gL,cz)) aM ak bO a7 (bE:=aP.bE) ?_,aV⟩;rw[Jj cO,JP,gj,vj _ af];rfl
end
section
variable {K:ef}{B:dy}{ops rest:List Oper}{o:Oper}{n:Nat}{ds:eK}{l:List (Nat×Value)}{d:Nat}{m:a8}{J:an}{bF:Option (List PanicEntry)->cC->a8->an->Prop}
theorem Hz{S:a5}{H:aw}{fg:Code->a5->aw->Option (Exit×a5×aw)}{bt:eZ}(aF:o.guard=none):one K.P (iO K.Q bt) (hO K.Q fg bt).aQ ops S H o=qE S H o.dst (cL K.P (iO K.Q bt) (hO K.Q fg bt).aQ S H o):=by
 unfold one gp;rw[aF];rfl
theorem Ue{S:a5}{H H':aw}{e:Ending}{c:Call}{x:Operand}{f:FuncId}{first cap:Array Value}{args b2:List Value}(ax:Sat ⟨n,ds,l⟩ S)(aj:o.op=.call c)(aJ:c.callee=.value x)(ab:bT l x=some (.func (.func f) first cap))(aI:ix l c.args.toList=some args)(has:(first.toList++args)++cap.toList=b2)(h:kS K.Q f b2 H e H'):
 cL K.P (iO K.Q (nU f b2 H (e,H'))) (hO K.Q il (nU f b2 H (e,H'))).aQ S H o=pk (some (e,H')):=by
 unfold cL e3;simp only[aj];show k9 K.P _ c=_;unfold k9;rw[aJ];show n0 K.P _ _ S.T H c=_;unfold n0;rw[oG ax H aI];simp only[aJ];rw[dg ax H ab];simp only
 show(match kY K.P H (.func f) (first.toList++args) cap.toList with|some (f,b2)=>pk (iO K.Q _ f b2 H)|none=>none)=_
 unfold kY;simp only
 rw[has,Cl h (by unfold nU;rw[bj ⟨rfl,rfl,rfl⟩])]
theorem W.M5{c:Call}{x:Operand}{f:FuncId}{first cap:Array Value}{args b2:List Value}{cj eB:a8}{lg:Value->a8->an->Prop}{mz:List PanicEntry->a8->an->Prop}
 (aF:o.guard=none)(aj:o.op=.call c)(aq:o.dst=some d)(aE:Nat.blt d n=true)(aJ:c.callee=.value x)(ab:bT l x=some (.func (.func f) first cap))(aI:ix l c.args.toList=some args)(has:(first.toList++args)++cap.toList=b2)
 (ap:(cj++eB).Perm m)(b4:s' K f b2 cj J lg mz)(h:∀v m' ah,J.le ah->lg v m' ah->W K B ops rest ⟨n,ds,(d,v)::l⟩ (m'++eB) ah bF)
 (bS:∀ct m' ah,J.le ah->mz ct m' ah->bF (some ct) ⟨n,ds,l⟩ (m'++eB) ah):W K B ops (o::rest) ⟨n,ds,l⟩ m J bF:=by
 intro S H ax aH;obtain⟨H',ah,m',a0,bJ⟩:=b4 H (aH.enter ap trivial);obtain⟨cO,gj⟩:=aH.leave ap a0;rcases bJ with⟨v,a7,bJ⟩|⟨ct,a7,bJ⟩
 ·obtain⟨bl,s1,s2⟩:=ax.put (dst:=some d) aE v;obtain⟨p,aP,p2,cV,ru,qR,dQ,ee,fB,iD⟩:=h v m' ah gj bJ bl H' s2 cO;refine⟨p,aP,p2,cV,ru,qR,.cons il (nU f b2 H (.returned v,H')) ?_ dQ,ee,fB,iD⟩;rw[Hz aF,Ue ax aj aJ ab aI has a7,aq];show ot H' (S.put (some d) v)=_;rw[s1];rfl
 ·refine⟨some ct,S,H',⟨n,ds,l⟩,m'++eB,ah,.jc il (nU f b2 H (.panicked ct,H')) ?_,ax,cO,bS ct m' ah gj bJ⟩;rw[Hz aF,Ue ax aj aJ ab aI has a7];rfl
theorem W.panic{x:Operand}{t:TypeId}{v:Value}(aF:o.guard=none)(aj:o.op=.panic x)(ab:bT l x=some (.iface t v))(h:bF (some [{v:=.iface t v,recovered:=false}]) ⟨n,ds,l⟩ m J):W K B ops (o::rest) ⟨n,ds,l⟩ m J bF:=by
 intro S H ax aH;refine⟨some [{v:=.iface t v,recovered:=false}],S,H,⟨n,ds,l⟩,m,J,.jc il lG ?_,ax,aH,h⟩;rw[Hz aF];have:cL K.P (iO K.Q lG) (hO K.Q il lG).aQ S H o=some (.jc [{v:=.iface t v,recovered:=false}] H):=by
  unfold cL e3;simp only[aj];show HE K.P _ (ba S.T H x)=_;rw[dg ax H ab];rfl
 rw[this];rfl
theorem W.defer{c:Call}{x:Operand}{f:FuncId}{first cap:Array Value}{args:List Value}(aF:o.guard=none)(aj:o.op=.defer c)(aq:o.dst=none)(aJ:c.callee=.value x)(ab:bT l x=some (.func (.func f) first cap))(aI:ix l c.args.toList=some args)(av:ds.cP=none)
 (h:W K B ops rest ⟨n,⟨⟨.fn (.func f) cap,(first.toList++args).toArray⟩::ds.ds,ds.cP,ds.cb,ds.bE⟩,l⟩ m J bF):W K B ops (o::rest) ⟨n,ds,l⟩ m J bF:=by
 intro S H ax aH;have yH:Sat ⟨n,⟨⟨.fn (.func f) cap,(first.toList++args).toArray⟩::ds.ds,ds.cP,ds.cb,ds.bE⟩,l⟩ (S.Ef ⟨.fn (.func f) cap,(first.toList++args).toArray⟩):=by
  obtain⟨T,KU,fb,aen,gL,anx⟩:=S;exact⟨ax.n,(by show _::fb=_::ds.ds;rw[show fb=ds.ds from ax.ds]),ax.cb,ax.bE,ax.cP,ax.has,ax.get⟩
 obtain⟨p,aP,p2,cV,ru,qR,dQ,ee,fB,iD⟩:=h _ H yH aH;refine⟨p,aP,p2,cV,ru,qR,.cons il lG ?_ dQ,ee,fB,iD⟩;rw[Hz aF];have tL:S.cP=none:=ax.cP.trans av;have:cL K.P (iO K.Q lG) (hO K.Q il lG).aQ S H o=some (.hR ⟨.fn (.func f) cap,(first.toList++args).toArray⟩):=by
  unfold cL e3;simp only[aj];show vH K.P _ c=_;unfold vH;simp only[tL];unfold Fw;rw[oG ax H aI];simp only[aJ];rw[dg ax H ab];rfl
 rw[this,aq];show Bi S H none _=_;unfold Bi;rw[tL];rfl
def Y8 (ds:eK):Option (Value×FrameMode):=
 match ds.cP with
 |some _=>none
 |none=>bif ds.cb then(match ds.bE with
  |.panicking ({v,recovered:=false,goexit:=false}::Lf)=>some (v,.panicking ({v,recovered:=true}::Lf))
  |m=>some (.nilIface,m))
  else some (.nilIface,ds.bE)
theorem W.recover{c:Call}{v:Value}{bE:FrameMode}(aF:o.guard=none)(aj:o.op=.call c)(aJ:c.callee=.builtin .recover)(aI:c.args.toList=[])(aq:o.dst=some d)(aE:Nat.blt d n=true)(av:Y8 ds=some (v,bE))
 (h:W K B ops rest ⟨n,⟨ds.ds,ds.cP,ds.cb,bE⟩,(d,v)::l⟩ m J bF):W K B ops (o::rest) ⟨n,ds,l⟩ m J bF:=by
 intro S H ax aH;have sl:Sat ⟨n,⟨ds.ds,ds.cP,ds.cb,bE⟩,l⟩ (S.x1 bE):=by
  obtain⟨T,KU,fb,aen,gL,anx⟩:=S;exact⟨ax.n,ax.ds,ax.cb,rfl,ax.cP,ax.has,ax.get⟩
 obtain⟨bl,s1,s2⟩:=sl.put (dst:=some d) aE v;obtain⟨p,aP,p2,cV,ru,qR,dQ,ee,fB,iD⟩:=h bl H s2 aH;refine⟨p,aP,p2,cV,ru,qR,.cons il lG ?_ dQ,ee,fB,iD⟩;rw[Hz aF];have:cL K.P (iO K.Q lG) (hO K.Q il lG).aQ S H o=some .Bu:=by
  unfold cL e3;simp only[aj];show k9 K.P _ c=_;unfold k9;rw[aJ];simp only
  unfold qh;rw[aI];rfl
 rw[this,aq];show Hx S H (some d) (rE S)=_;have e:rE S=some (v,bE):=by
  unfold rE;unfold Y8 at av;rw[ax.cP,ax.cb,ax.bE];exact av
 rw[e];show mr (S.x1 bE) (some d) v H=_;show ot H ((S.x1 bE).put (some d) v)=_;rw[s1];rfl
end
section
variable {g0:Nat}{B:dy}{H:aw}{J:an}{m m':a8}
theorem Inv.ann{a z:Nat}{full:List Value}{e:TypeId}{rest:List Nat}(h:Inv g0 B J ((a,.opn full e rest z)::m) H)(cells':List Value):
 ∃f H1 cz ic,H.mem.get a=some (.row full e true f z false)/\H.bP.get f=some (a::rest)/\sG H H.aG (a::rest)=some H1/\H1.rF f [H.aG]=some cz/\H1.aG=H.aG/\cz.aG=H.aG/\cz.new (.row cells' e true f z false)=some (H.aG,ic)/\Inv g0 B J ((H.aG,.opn cells' e [] z)::m) ic:=by
 obtain⟨a7,a0,bJ,cO⟩:=h.own a _ (.head _);obtain⟨f,f1,f2,f3⟩:=a7;have cA:=h.lt (.head _);have ez:=h.gv;rw[show ids ((a,ec.opn full e rest z)::m)=a::(rest++ids m) from rfl,uG,qV,IK] at ez;obtain⟨ny,AG,Ke,OP⟩:=ez;have Gs:∀x∈a::rest,x<H.aG:=fun x ab=>by
  rcases gb.1 ab with q|q
  ·subst q;exact cA
  ·exact(h.opn a _ (.head _) x q).1
 obtain⟨H1,aC,bm⟩:=W6 (pG:=H.aG) (a::rest) h.wf Gs;obtain⟨v1,v2,H7,v4,apo,v6⟩:=KE aC;have kc:f<H1.cF:=by rw[H7];exact h.wf.FD f3
 obtain⟨cz,aW⟩:=bm.rF [H.aG] kc;obtain⟨s2,s1,hK,ms,qH⟩:=aw.D3 aW;have ly:cz.aG=H.aG:=by rw[s2,v1]
 have AI:∀x,x≠a->x∉rest->cz.mem.get x=H.mem.get x:=fun x aX aU=>by
  rw[s1,v6 x (.inl (fun q=>by rcases gb.1 q with q|q;exact aX q;exact aU q))]
 have Ax:∀g,g≠f->cz.bP.get g=H.bP.get g:=fun g q=>by rw[qH,bd q,v2]
 have hm:Inv g0 B J m cz:=by
  refine⟨bm.RF kc aW,by rw[ms,v4];exact h.bU,by rw[ly];exact h.aG,by rw[hK,H7];exact h.cF,fun x ab fG=>?_,fun g aF=>?_,fun x c b3 bf=>?_,h.le,h.fresh,fun x b ak=>?_,fun x b ak y aB=>by rw[ly];exact h.opn x b (.tail _ ak) y aB,Ke⟩
  ·rw[AI x (fun q=>by subst q;rcases a0 with q|q;·omega
                      ·exact fG q) (fun q=>by rcases(h.opn a _ (.head _) x q).2.1 with r|r;·omega
                                              ·exact fG r)]
   exact h.gE x ab fG
  ·rw[Ax g (fun q=>aF (by rw[q];exact f1))];exact h.nC g aF
  ·obtain⟨o,f',ir,s,q⟩:=h.et x c b3 bf
   exact⟨o,f',ir,s,by rw[AI x (fun r=>by subst r;rw[bJ] at bf;cases bf) (fun r=>by have:=(h.opn a _ (.head _) x r).2.2;rw[this] at bf;cases bf)];exact q⟩
  ·obtain⟨dF,dq,ja,k6⟩:=h.own x b (.tail _ ak)
   have AV:x∈ids m:=AY ak;refine⟨?_,dq,ja,k6⟩;refine ec.ym dF (AI x (fun r=>ny (.inr (r▸AV))) (fun r=>OP _ r _ AV rfl)) fun g r aF=>?_;rw[Ax g (fun dG=>by
        subst dG;rw[f3] at aF;injection aF with aF;injection aF with aF
        exact ny (.inr (aF▸AV)))]
   exact aF
 obtain⟨ic,cw⟩:=hm.wf.new (.row cells' e true f z false);obtain⟨_,dV,en,fH,kg,gk⟩:=aw.qC cw;refine⟨f,H1,cz,ic,f2,f3,aC,aW,v1,ly,by rw[<-ly];exact cw,?_⟩;have af:Inv g0 B J m ic:=by
  refine⟨hm.wf.Q0 cw,kg.trans hm.bU,by have:=hm.aG;omega,by rw[fH];exact hm.cF,fun x ab fG=>?_,fun g aF=>by rw[en];exact hm.nC g aF,fun x c e bf=>?_,hm.le,hm.fresh,fun x b ak=>?_,fun x b ak y aB=>?_,hm.gv⟩
  ·rw[gk,bd (by have:=hm.aG;omega)];exact hm.gE x ab fG
  ·obtain⟨o,f,z,s,q⟩:=hm.et x c e bf
   exact⟨o,f,z,s,by rw[gk,bd (by have:=hm.wf.lt q;omega)];exact q⟩
  ·obtain⟨dF,dq,ja,k6⟩:=hm.own x b ak
   exact⟨ec.ym dF (by rw[gk,bd (by have:=hm.lt ak;omega)]) (fun f l aM=>by rw[en];exact aM),dq,ja,k6⟩
  ·obtain⟨dF,dq,ja⟩:=hm.opn x b ak y aB
   exact⟨by omega,dq,ja⟩
 refine⟨af.wf,af.bU,af.aG,af.cF,af.gE,af.nC,af.et,af.le,af.fresh,fun x b ak=>?_,fun x b ak y aB=>?_,?_⟩
 ·rcases gb.1 ak with q|q
  ·injection q with aX aU;subst aX;subst aU
   exact⟨⟨f,f1,by rw[gk,ly,bj rfl],by rw[en,qH,bj rfl]⟩,.inl h.aG,h.Q2,h.N2⟩
  ·exact af.own x b q
 ·rcases gb.1 ak with q|q
  ·injection q with aX aU;subst aX;subst aU;cases aB
  ·exact af.opn x b q y aB
 ·show(H.aG::([]++ids m)).Nodup
  rw[kp,uG];refine⟨fun q=>?_,Ke⟩;have:=hm.KM q;omega
end
structure Sx (e:TypeId) (sz:Nat) (v:Value) (k:Nat) (cells:List Value) (bZ:a8) (a:Nat) (full:List Value) (rest:List Nat) (z:Nat):Prop where
 v:v=.slice (some ⟨a,0,none⟩) k cQ
 bZ:bZ=[(a,.opn full e rest z)]
 lt:k*sz<full.length
 cut:full.take (k*sz)=cells
 z:z<=k*sz
section
variable {K:ef}{B:dy}{o:Oper}{n:Nat}{ds:eK}{l:List (Nat×Value)}{m m':a8}{J:an}{e8:cC->a8->an->Prop}{d:Nat}
theorem aqu{c:Call}{t hM e:TypeId}{sz k j a z:Nat}{zs cells new full:List Value}{rest:List Nat}{v x:Value}{bZ dc:a8}{ht:TypeDesc}(aj:o.op=.call c)(aJ:c.callee=.builtin .append)(aq:o.dst=some d)(aE:Nat.blt d n=true)(aI:ix l c.args.toList=some [v,x])(nA:c.argTypes.toList=[t,hM])(aS:kQ K.P t=some (e,sz,zs))(kN:K.P.underlying hM=some ht)(st:∀i,ht≠.int i)
 (az:Sx e sz v k cells bZ a full rest z)(hm:m.Perm (bZ++dc))(ab:mA K.g0 B J m sz x j new)(ei:new.length=j*sz)(eh:new.all ff=true)(bf:0<j)(aD:k+j<=1000000)
 (h:∀w jL,Acc e sz w (k+j) (cells++new) jL->(z=0->ir jL)->tX jL->e8 ⟨n,ds,(d,w)::l⟩ (jL++dc) J):jQ K B o ⟨n,ds,l⟩ m J e8:=by
 obtain⟨rfl,rfl,cA,CU,e1⟩:=az;obtain⟨hu,ea,jm,mv,h3,aL,bQ,rfl,bL,cZ,dE⟩:=sV aS;refine jQ.BK aq aE fun S H ax aH=>?_;obtain⟨ev,gH⟩:=ab H aH;have aH:=aH.perm hm;have ho:∀call aQ,cL K.P call aQ S H o=nd (qg K.P H t (.slice (some ⟨a,0,none⟩) k cQ) x):=fun call aQ=>by
  rw[Aa aj aJ];unfold qh;rw[oG ax H aI,nA];simp only[kN]
 have kL:(!(Nat.ble (k+j) 1000000&&Nat.ble jm 1000000&&Nat.beq mv.cells.toList.length sz))=false:=by
  rw[bQ,bL,hY,show Nat.ble (k+j) 1000000=true from mU aD];rfl
 have ri:(!(new.all ff&&Nat.beq new.length (j*sz)))=false:=by
  rw[eh,ei,hY];rfl
 have lY:cells.length=k*sz:=by rw[<-CU,dY];omega
 obtain⟨f,H1,cz,ic,ck,ch,c6,gg,gh,hg,gW,qk⟩:=Inv.ann (m:=dc) aH (cells++new);have rc:Nat.blt a H.bU=false:=by
  cases q:Nat.blt a H.bU
  ·rfl
  ·have:a<H.bU:=by simpa[Nat.blt,v8] using q
   have:=(aH.own _ _ (.head _)).2.2.2;have:=aH.bU;omega
 have vt:Nat.ble z (0+k*sz)=true:=mU (by omega);refine⟨.slice (some ⟨H.aG,0,none⟩) (k+j) cQ,ic,(H.aG,.opn (cells++new) e [] z)::dc,J,fun call aQ=>?_,qk,?_⟩
 ·rw[ho];have O4:Nat.beq j 0=false:=by
   cases q:Nat.beq j 0
   ·rfl
   ·exact absurd (eC q) (by omega)
  have hle:Nat.beq full.length (k*sz)=false:=by
   cases q:Nat.beq full.length (k*sz)
   ·rfl
   ·exact absurd (eC q) (by omega)
  have tN:takeN (k*sz) full=some cells:=by rw[xS (by omega),CU]
  unfold qg;simp only[hu,ea,h3,aL,ev,kL,dB,gH,ri,hY,cv,ck,rc,SD,x5,vt,ov,O4,tN,ch,yt,hle,Fi,c6,gh,gg,hg,gW];rfl
 ·exact h (.slice (some ⟨H.aG,0,none⟩) (k+j) cQ) [(H.aG,.opn (cells++new) e [] z)] (.opn (by rw[eS,lY,ei,c3]) (by rw[eS];omega)) (fun q bV c' b3 r hq hm=>by rcases gb.1 hm with r|r;(cases r;exact q);cases r) (fun bV c' b3 hm=>by rcases gb.1 hm with r|r;cases r;cases r)
theorem R9{t e:TypeId}{x:Operand}{ar:Operand}{sz a len z:Nat}{zs full:List Value}{rest:List Nat}{b:Int}{qB:IntKind}(aj:o.op=.slice t x none (some ar) none)(ab:bT l x=some (.slice (some ⟨a,0,none⟩) len cQ))(kM:bT l ar=some (.int qB b))(aS:kQ K.P t=some (e,sz,zs))(hm:(a,ec.opn full e rest z)∈m)(aO:0<=b)(ad:b<=len):
 c5 K B o n ds l m J (.slice (some ⟨a,0,none⟩) b.toNat cQ):=by
 obtain⟨hu,ea,jm,mv,h3,aL,bQ,rfl,bL,cZ,dE⟩:=sV aS;intro call aQ S H ax aH;obtain⟨f,_,m9,_⟩:=(aH.own _ _ hm).1;unfold cL e3;simp only[aj];show mn K.P _ t (ba S.T H x) (some none) (hH S.T H (some ar))=_;rw[dg ax H ab];show mn K.P _ t _ (some none) (match ba S.T H ar with|some v=>some (some v)|none=>none)=_
 rw[dg ax H kM];have FX:qz b len=some b.toNat:=by
  obtain⟨c,rfl⟩:∃c:Nat,b=(c:Int):=⟨b.toNat,by omega⟩;show(bif Nat.ble c len then some c else none)=_;rw[show Nat.ble c len=true from mU (by omega)];rfl
 have:kt K.P H t (.slice (some ⟨a,0,none⟩) len cQ) none (some (.int qB b))=some (.slice (some ⟨a,0,none⟩) b.toNat cQ):=by
  unfold kt;simp only[hu,ea,hY,cv,m9,ov,dB,ks,FX,j8,iI];rfl
 show orElse (g3 (kt K.P H t (.slice (some ⟨a,0,none⟩) len cQ) none (some (.int qB b))) H) _=_;rw[this];rfl
end
def gy(e:TypeId)(sz:Nat)(v:Value)(k:Nat)(cells:List Value)(bZ:a8):Prop:=(Acc e sz v k cells bZ/\ir bZ/\tX bZ)\/∃a full rest,Sx e sz v k cells bZ a full rest 0
theorem gy.form{e:TypeId}{sz k:Nat}{v:Value}{cells:List Value}{bZ:a8}(h:gy e sz v k cells bZ):(∃b,v=.slice b 0 0/\k=0/\cells=[]/\bZ=[])\/∃a full rest,v=.slice (some ⟨a,0,none⟩) k cQ/\bZ=[(a,.opn full e rest 0)]/\full.take (k*sz)=cells/\k*sz<=full.length:=by
 rcases h with⟨h,aL,aE⟩|⟨a,full,rest,ad,af,aV,bq,fL⟩
 ·cases h with
  |nil=>exact .inl ⟨_,rfl,rfl,rfl,rfl⟩
  |js a=>exact .inl ⟨_,rfl,rfl,rfl,rfl⟩
  |opn ad af=>
   have:=aL _ _ _ _ _ (.head _);subst this;exact .inr ⟨_,_,_,rfl,rfl,by rw[<-ad,uH],by omega⟩
  |cap=>exact absurd (.head _) (aE _ _ _)
 ·exact .inr ⟨a,full,rest,ad,af,bq,by omega⟩
theorem gy.of{e:TypeId}{sz k a:Nat}{full:List Value}{rest:List Nat}(hk:k*sz<=full.length):gy e sz (.slice (some ⟨a,0,none⟩) k cQ) k (full.take (k*sz)) [(a,.opn full e rest 0)]:=by
 by_cases q:k*sz=full.length
 ·refine .inl ⟨?_,fun bV c b3 r z hm=>?_,fun bV c b3 hm=>?_⟩
  ·have:=Acc.opn (a:=a) (e:=e) (rest:=rest) (z:=0) q.symm (ep _);rw[q,uH];exact this
  ·rcases gb.1 hm with q|q
   ·cases q;rfl
   ·cases q
  ·rcases gb.1 hm with q|q
   ·cases q
   ·cases q
 ·exact .inr ⟨a,full,rest,rfl,rfl,by omega,rfl,ep _⟩
theorem gy.cut{e:TypeId}{sz k lB:Nat}{v:Value}{cells:List Value}{bZ:a8}(h:gy e sz v k cells bZ)(hk:lB<=k)(aO:0<k):∃a full rest,v=.slice (some ⟨a,0,none⟩) k cQ/\bZ=[(a,.opn full e rest 0)]/\gy e sz (.slice (some ⟨a,0,none⟩) lB cQ) lB (cells.take (lB*sz)) bZ:=by
 rcases h.form with⟨b,_,q,_⟩|⟨a,full,rest,rfl,rfl,rfl,bq⟩
 ·omega
 ·have:lB*sz<=k*sz:=e0 _ hk;refine⟨a,full,rest,rfl,rfl,?_⟩;rw[rX,gn this];exact gy.of (by omega)
theorem gy.row{e:TypeId}{sz k:Nat}{v:Value}{cells:List Value}{bZ:a8}(h:gy e sz v k cells bZ)(aO:0<k):∃a full rest,v=.slice (some ⟨a,0,none⟩) k cQ/\bZ=[(a,.opn full e rest 0)]/\full.take (k*sz)=cells/\k*sz<=full.length:=by
 rcases h.form with⟨b,_,q,_⟩|q
 ·omega
 ·exact q
theorem Q6{full cells:List Value}{n i:Nat}(h:full.take n=cells)(ar:i<n):nth full i=nth cells i:=by
 rw[lH,lH,<-h,Ev ar]
section
variable {K:ef}{B:dy}{o:Oper}{n:Nat}{ds:eK}{l:List (Nat×Value)}{m m':a8}{J:an}{e8:cC->a8->an->Prop}{d:Nat}
theorem LY{c:Call}{t hM e:TypeId}{sz k j:Nat}{zs cells new:List Value}{v x:Value}{bZ dc:a8}{ht:TypeDesc}(aj:o.op=.call c)(aJ:c.callee=.builtin .append)(aq:o.dst=some d)(aE:Nat.blt d n=true)(aI:ix l c.args.toList=some [v,x])(nA:c.argTypes.toList=[t,hM])(aS:kQ K.P t=some (e,sz,zs))(kN:K.P.underlying hM=some ht)(st:∀i,ht≠.int i)
 (az:gy e sz v k cells bZ)(hm:m.Perm (bZ++dc))(ab:mA K.g0 B J m sz x j new)(ei:new.length=j*sz)(eh:new.all ff=true)(bf:0<j)(aD:k+j<=1000000)
 (h:∀w jL,gy e sz w (k+j) (cells++new) jL->e8 ⟨n,ds,(d,w)::l⟩ (jL++dc) J):jQ K B o ⟨n,ds,l⟩ m J e8:=by
 rcases az with⟨az,ad,af⟩|⟨a,full,rest,az⟩
 ·exact qM aj aJ aq aE aI nA aS kN st az hm ab ei eh aD fun w jL q r=>h w jL (.inl ⟨q,r.1 ad,r.2 af⟩)
 ·exact aqu aj aJ aq aE aI nA aS kN st az hm ab ei eh bf aD fun w jL q dQ ee=>h w jL (.inl ⟨q,dQ rfl,ee⟩)
end
section
variable {K:ef}{B:dy}{o:Oper}{n:Nat}{ds:eK}{l:List (Nat×Value)}{m:a8}{J:an}
def ES (k:IntKind)(a b:Int):BinOp->Option Value
 |.shr=>some (.int k (a.fdiv (2 ^ b.toNat)))
 |.and=>some (.int k (k.wrap (BitVec.ofInt k.bits a &&& BitVec.ofInt k.bits b).toNat))
 |_=>none
theorem uk{op:BinOp}{t dH:TypeId}{x y:Operand}{k:IntKind}{a b:Int}{v:Value}(aj:o.op=.binOp op t x y dH)(ab:bT l x=some (.int k a))(aB:bT l y=some (.int k b))(az:ES k a b op=some v)(ak:0<=b)(ls:b<=k.bits):c5 K B o n ds l m J v:=by
 intro call aQ S H ax aH;unfold cL e3;simp only[aj];show l6 K.P _ op t (ba S.T H x) (ba S.T H y)=_;rw[dg ax H ab,dg ax H aB];show(bif mi k k then jG H k a b _ op else _)=_;rw[Dv,cv];have key:∀(xC:BinOp),op=xC->(xC=.shr\/xC=.and)->fk K.P S.T H o=some (.val v H):=by
  intro xC e h;subst e;refine pM ax (by rw[aj];rfl) ab aB rfl rfl ?_ ?_
  ·unfold execOp;simp only[aj];rw[hS ax H ab,hS ax H aB];rcases h with rfl|rfl
   ·simp only[ES,cD] at az;subst az;have aF:fc K.P (eqGuard .shr t x y (.int k a) (.int k b))=some ():=rfl;have iy:binOp .shr t (.int k a) (.int k b)=pure (.int k (a.fdiv (2 ^ b.toNat))):=by
     simp[binOp,Op.shift,show ¬b<0 by omega,gn (show b.toNat<=k.bits by omega)]
    rw[gB (a:=.int k (a.fdiv (2 ^ b.toNat)))]
    ·rfl
    rw[gB aF,iy];rfl
   ·simp only[ES,cD] at az;subst az;have aF:fc K.P (eqGuard .and t x y (.int k a) (.int k b))=some ():=rfl;have iy:binOp .and t (.int k a) (.int k b)=pure (.int k (k.wrap (BitVec.ofInt k.bits a &&& BitVec.ofInt k.bits b).toNat)):=by simp[binOp,Op.intBits]
    rw[gB (a:=.int k (k.wrap (BitVec.ofInt k.bits a &&& BitVec.ofInt k.bits b).toNat))]
    ·rfl
    rw[gB aF,iy];rfl
  ·rcases h with rfl|rfl<;>simp only[ES,cD] at az<;>subst az<;>rfl
 cases op<;>simp only[ES,reduceCtorEq] at az
 ·show _=_;exact(show jG H k a b _ .and=_ from key .and rfl (.inr rfl))
 ·exact(show jG H k a b _ .shr=_ from key .shr rfl (.inl rfl))
end
theorem HU{a:Nat}{q:Nat}:(a:Int).fdiv (2 ^ q)=((a / 2 ^ q:Nat):Int):=by
 rw[Int.fdiv_eq_ediv_of_nonneg _ (by exact uy (Int.pow_pos (by omega)))];simp
section
variable {K:ef}{B:dy}{n:Nat}{ds:eK}{l:List (Nat×Value)}{m m':a8}{J:an}{c7:Exit->cC->a8->an->Prop}{f:FuncId}{args:List Value}
theorem gK{α:Type}{m:List α}:∃j,(m++j).Perm m:=⟨[],by rw[iU]⟩
theorem ae.lW{α:Type}{c:Code}(k:Nat)(sK:α->List (Nat×Value))(mem:α->a8)(et:α->an)(inv:α->Prop)(ad:ae K B c ⟨n,ds,l⟩ m J fun e cV m' ah=>match e with
 |.normal=>∃s l',inv s/\cV=⟨n,ds,l'⟩/\o1 l' (sK s++l.drop k)/\(∃j,(mem s++j).Perm m')/\ah=et s
 |e=>c7 e cV m' ah)(af:∀s,inv s->c7 .normal ⟨n,ds,sK s++l.drop k⟩ (mem s) (et s)):ae K B c ⟨n,ds,l⟩ m J c7:=by
 intro S H ax aH;obtain⟨e,aP,H',cV,c1,ah,a7,a0,bJ,cO⟩:=ad S H ax aH;cases e with
 |normal=>
  obtain⟨s,l',kx,rfl,gj,⟨j,jJ⟩,rfl⟩:=cO;exact⟨_,aP,H',_,_,_,a7,a0.sub gj,(bJ.perm jJ.symm).sub (zM _ _),af s kx⟩
 |exit i=>exact⟨_,aP,H',_,_,_,a7,a0,bJ,cO⟩
 |goto i=>exact⟨_,aP,H',_,_,_,a7,a0,bJ,cO⟩
 |ret=>exact⟨_,aP,H',_,_,_,a7,a0,bJ,cO⟩
 |panic c=>exact⟨_,aP,H',_,_,_,a7,a0,bJ,cO⟩
 |outgrown=>exact⟨_,aP,H',_,_,_,a7,a0,bJ,cO⟩
end
structure uw where
 f:FuncId
 b2:List Value
 cj:a8
 J:an
 ek:Value->a8->an->Prop
 new:Bool
def uw.abd(x:uw)(K:ef)(f:FuncId)(b2:List Value)(H:aw)(r:Ending×aw):Prop:=
 x.f=f/\x.b2=b2/\Inv K.g0 (ky x.cj H x.J) x.J x.cj H/\∃v H' ah m',r=(Ending.returned v,H')/\kS K.Q f b2 H (.returned v) H'/\Inv K.g0 (ky x.cj H x.J) ah m' H'/\x.ek v m' ah
def bc(K:ef)(B:dy)(ops:List Oper)(a':List jP)(F:List uw)(E:cC)(m:a8)(J:an)(bF:cC->a8->an->Prop):Prop:=
 ∀(T:eZ) (S:a5) (H:aw),(∀f b2 H1 r,T f b2 H1=some r->∃x∈F,x.abd K f b2 H1 r/\(x.new=true->H1.aG<H.aG))->Sat E S->Inv K.g0 B J m H->∃bt:eZ,(∀f b2 H r cW,T f b2 H=some r->bt f b2 H=some cW->cW=r)/\∃aP H' cV m' ah,
  (∀fY:eZ,(∀f args H r,bt f args H=some r->fY f args H=some r)->dU K.P (iO K.Q fY) (hO K.Q il fY).aQ ops a' S H=some (.ok aP H'))/\Sat cV aP/\Inv K.g0 B ah m' H'/\bF cV m' ah
section
variable {K:ef}{B:dy}{ops:List Oper}{a':List jP}{F:List uw}{F':List (FuncId×List Value)}{E:cC}{m m':a8}{J:an}{o:Oper}{bF:cC->a8->an->Prop}
variable {n:Nat}{ds:eK}{l:List (Nat×Value)}{d i:Nat}
theorem bp.iR(h:bc K B ops a' [] E m J bF):bp K B ops a' [] E m J bF:=by
 intro S H ax aH;obtain⟨bt,_,af⟩:=h (fun _ _ _=>none) S H (fun _ _ _ _ q=>by cases q) ax aH;exact⟨bt,(fun _ _ _ _ _ q=>by cases q),af⟩
theorem bc.iQ(b4:∀x∈F,(x.f,x.b2)∈F')(h:bp K B ops a' F' E m J bF):bc K B ops a' F E m J bF:=by
 intro T S H cB ax aH;obtain⟨bt,ad,af⟩:=h S H ax aH;refine⟨bt,fun f b2 H1 r cW aX aU=>?_,af⟩;obtain⟨x,ab,⟨aC,aW,_⟩,_⟩:=cB f b2 H1 r aX;exact absurd (by rw[<-aC,<-aW];exact b4 x ab) (ad f b2 H1 cW aU)
theorem bc.val{v:Value}(ar:nth ops i=some o)(aF:o.guard=none)(aq:o.dst=some d)(aE:Nat.blt d n=true)(az:c5 K B o n ds l m J v)(h:bc K B ops a' F ⟨n,ds,(d,v)::l⟩ m J bF):bc K B ops (.val i::a') F ⟨n,ds,l⟩ m J bF:=by
 intro T S H cB ax aH;obtain⟨bl,s1,s2⟩:=ax.put (dst:=some d) aE v;obtain⟨bt,dr,aP,H',cV,m',ah,ad,af,aV,bq⟩:=h T bl H cB s2 aH;refine⟨bt,dr,aP,H',cV,m',ah,fun fY q=>?_,af,aV,bq⟩;show jN ops i (mN K.P _ _ ops S H (dU K.P _ _ ops a'))=_;unfold jN;rw[ar];show mN K.P _ _ ops S H (dU K.P _ _ ops a') o=_;unfold mN gp;rw[aF];show D' S H o.dst (dU K.P _ _ ops a') (cL K.P _ _ S H o)=_;rw[az _ _ S H ax aH,aq];show(bif Nat.beq H.aG H.aG then pR (dU K.P _ _ ops a') H (S.put (some d) v) else none)=_;rw[hY,cv,s1];exact ad fY q
theorem bc.b9{is:List Nat}(aJ:vV K B ops n ds l m J is)(h:bc K B ops a' F ⟨n,ds,l⟩ m J bF):bc K B ops (.b9 is::a') F ⟨n,ds,l⟩ m J bF:=by
 intro T S H cB ax aH;obtain⟨bt,dr,aP,H',cV,m',ah,ad,af,aV,bq⟩:=h T S H cB ax aH;refine⟨bt,dr,aP,H',cV,m',ah,fun fY q=>?_,af,aV,bq⟩;show E' K.P _ _ ops S H (dU K.P _ _ ops a') is=_;unfold E';rw[vV.all ax aH aJ,cv];exact ad fY q
theorem bc.Uf{mk:Bool}{c:Call}{x:Operand}{f:FuncId}{first cap:Array Value}{args b2:List Value}{cj eB:a8}{ek:Value->a8->an->Prop}
 (ar:nth ops i=some o)(aF:o.guard=none)(aj:o.op=.call c)(aq:o.dst=some d)(aE:Nat.blt d n=true)(aJ:c.callee=.value x)(ab:bT l x=some (.func (.func f) first cap))(aI:ix l c.args.toList=some args)(has:(first.toList++args)++cap.toList=b2)
 (ag:∀x∈F,x.f=f->x.b2=b2->(x.cj=cj/\x.J=J/\x.ek=ek)\/(∀H,Inv K.g0 (ky x.cj H x.J) x.J x.cj H->Inv K.g0 (ky cj H J) J cj H->False)\/x.new=true)
 (Pj:mk=true->cj=[]/\∀v m' ah,ek v m' ah->∃a b,(a,b)∈m')
 (ap:(cj++eB).Perm m)(hA:DK cj)(b4:Fn K f b2 cj J ek)(h:∀v m' ah,J.le ah->ek v m' ah->bc K B ops a' (⟨f,b2,cj,J,ek,mk⟩::F) ⟨n,ds,(d,v)::l⟩ (m'++eB) ah bF):bc K B ops (.bR i::a') F ⟨n,ds,l⟩ m J bF:=by
 intro T S H cB ax aH;have fS:=aH.enter ap hA;obtain⟨v,H',ah,m',a7,a0,bJ,kx⟩:∃v H' ah m',kS K.Q f b2 H (.returned v) H'/\Inv K.g0 (ky cj H J) ah m' H'/\ek v m' ah/\∀r,T f b2 H=some r->r=(Ending.returned v,H'):=by
  cases wO:T f b2 H with
  |none=>
   obtain⟨v,H',ah,m',a7,a0,bJ⟩:=b4 H fS;exact⟨v,H',ah,m',a7,a0,bJ,fun r q=>by cases q⟩
  |some r=>
   obtain⟨x,ab,⟨aC,aW,Ok,v,H',ah,m',nZ,a7,a0,bJ⟩,mF⟩:=cB _ _ _ _ wO;rcases ag x ab aC aW with⟨aX,aU,b0⟩|q|q
   ·rw[aX,aU] at a0;rw[b0] at bJ;exact⟨v,H',ah,m',a7,a0,bJ,fun cW q=>by injection q with q;rw[<-q];exact nZ⟩
   ·exact(q H Ok fS).elim
   ·exact absurd (mF q) (zQ _)
 have ly:H.aG<=H'.aG:=a0.aG;have ei:mk=true->H.aG<H'.aG:=fun q=>by
  obtain⟨e,he⟩:=Pj q;subst e;obtain⟨a,b,i'⟩:=he _ _ _ bJ;have aj:=a0.own _ _ i';rcases aj.2.1 with q|q
  ·exact p7 q (ec.TX a0.wf aj.1)
  ·exact absurd q (IL)
 obtain⟨cO,gj⟩:=aH.leave ap a0;obtain⟨bl,s1,s2⟩:=ax.put (dst:=some d) aE v
 classical
 obtain⟨bt,dr,aP,p2,cV,ru,qR,ad,af,aV,bq⟩:=h v m' ah gj bJ (fun f' iX H1=>if f'=f/\iX=b2/\H1=H then some (.returned v,H') else T f' iX H1) bl H' (fun f' iX H1 r q=>by
  split at q
  ·rename_i e;obtain⟨rfl,rfl,rfl⟩:=e;injection q with q
   exact⟨_,.head _,⟨rfl,rfl,fS,v,H',ah,m',q.symm,a7,a0,bJ⟩,ei⟩
  ·obtain⟨x,ab,cW,w4⟩:=cB _ _ _ _ q;exact⟨x,.tail _ ab,cW,fun e=>iJ (w4 e) ly⟩) s2 cO
 refine⟨fun f' cq H1=>if f'=f/\cq=b2/\H1=H then some (.returned v,H') else bt f' cq H1,fun f' cq H1 r cW aX aU=>?_,aP,p2,cV,ru,qR,fun fY q=>?_,af,aV,bq⟩
 ·dsimp only at aU
  split at aU
  ·rename_i e;obtain⟨rfl,rfl,rfl⟩:=e;injection aU with aU
   rw[kx r aX,aU]
  ·rename_i e;exact dr f' cq H1 r cW (by rw[bd e];exact aX) aU
 ·have ih:fY f b2 H=some (.returned v,H'):=q f b2 H _ (by simp only[and_self,bj]);have AM:∀f' cq H1 r,bt f' cq H1=some r->fY f' cq H1=some r:=fun f' cq H1 r av=>by
   by_cases e:f'=f/\cq=b2/\H1=H
   ·have:=dr f' cq H1 (.returned v,H') r (by rw[bj e]) av;rw[this,e.1,e.2.1,e.2.2];exact ih
   ·exact q f' cq H1 r (by dsimp only;rw[bd e];exact av)
  show jN ops i (fun o=>kG (dU K.P _ _ ops a') (one K.P _ _ ops S H o))=_;unfold jN;rw[ar];show kG (dU K.P _ _ ops a') (one K.P _ _ ops S H o)=_;unfold one gp;rw[aF];show kG (dU K.P _ _ ops a') (qE S H o.dst (cL K.P _ _ S H o))=_;have he:cL K.P (iO K.Q fY) (hO K.Q il fY).aQ S H o=some (.val v H'):=by
   unfold cL e3;simp only[aj];show k9 K.P _ c=_;unfold k9;rw[aJ];show n0 K.P _ _ S.T H c=_;unfold n0;rw[oG ax H aI];simp only[aJ];rw[dg ax H ab];simp only
   show(match kY K.P H (.func f) (first.toList++args) cap.toList with|some (f,b2)=>pk (iO K.Q _ f b2 H)|none=>none)=_
   unfold kY;simp only
   rw[has,Cl a7 ih];rfl
  rw[he,aq];show kG (dU K.P _ _ ops a') (ot H' (S.put (some d) v))=_;rw[s1];exact ad fY AM
theorem bc.call{c:Call}{x:Operand}{f:FuncId}{first cap:Array Value}{args b2:List Value}{cj eB:a8}{ek:Value->a8->an->Prop}
 (ar:nth ops i=some o)(aF:o.guard=none)(aj:o.op=.call c)(aq:o.dst=some d)(aE:Nat.blt d n=true)(aJ:c.callee=.value x)(ab:bT l x=some (.func (.func f) first cap))(aI:ix l c.args.toList=some args)(has:(first.toList++args)++cap.toList=b2)
 (ag:∀x∈F,x.f=f->x.b2=b2->(x.cj=cj/\x.J=J/\x.ek=ek)\/(∀H,Inv K.g0 (ky x.cj H x.J) x.J x.cj H->Inv K.g0 (ky cj H J) J cj H->False)\/x.new=true)
 (ap:(cj++eB).Perm m)(hA:DK cj)(b4:Fn K f b2 cj J ek)(h:∀v m' ah,J.le ah->ek v m' ah->bc K B ops a' (⟨f,b2,cj,J,ek,false⟩::F) ⟨n,ds,(d,v)::l⟩ (m'++eB) ah bF):bc K B ops (.bR i::a') F ⟨n,ds,l⟩ m J bF:=
 bc.Uf ar aF aj aq aE aJ ab aI has ag (fun q=>by cases q) ap hA b4 h
theorem bc.Ug{c:Call}{x:Operand}{f:FuncId}{first cap:Array Value}{args b2:List Value}{ek:Value->a8->an->Prop}
 (ar:nth ops i=some o)(aF:o.guard=none)(aj:o.op=.call c)(aq:o.dst=some d)(aE:Nat.blt d n=true)(aJ:c.callee=.value x)(ab:bT l x=some (.func (.func f) first cap))(aI:ix l c.args.toList=some args)(has:(first.toList++args)++cap.toList=b2)
 (ag:∀x∈F,x.new=true)(Pj:∀v m' ah,ek v m' ah->∃a b,(a,b)∈m')
 (b4:Fn K f b2 [] J ek)(h:∀v m' ah,J.le ah->ek v m' ah->bc K B ops a' (⟨f,b2,[],J,ek,true⟩::F) ⟨n,ds,(d,v)::l⟩ (m'++m) ah bF):bc K B ops (.bR i::a') F ⟨n,ds,l⟩ m J bF:=
 bc.Uf (mk:=true) (eB:=m) ar aF aj aq aE aJ ab aI has (fun x ab _ _=>.inr (.inr (ag x ab))) (fun _=>⟨rfl,Pj⟩) (.refl _) trivial b4 h
end
section
variable {K:ef}{B:dy}{R:uK}{ops:List Oper}{a':List jP}{m:a8}{J:an}{o:Oper}{bF:cC->a8->an->Prop}
variable {n:Nat}{ds:eK}{l:List (Nat×Value)}{d i g:Nat}{want b:Bool}
end
section
variable {K:ef}{B:dy}{o:Oper}{n:Nat}{ds:eK}{l:List (Nat×Value)}{m:a8}{J:an}{e8:cC->a8->an->Prop}{d:Nat}
theorem apO{t e:TypeId}{x:Operand}{ar:Operand}{di off k cap sz:Nat}{zs:List Value}{b:Int}{qB:IntKind}(aj:o.op=.slice t x none (some ar) none)(ab:bT l x=some (.slice (some ⟨di,off,none⟩) k cap))(aS:kQ K.P t=some (e,sz,zs))(kM:bT l ar=some (.int qB b))(aO:0<=b)(ad:b<=cap)(aJ:cap<cQ)(lu:0<cap):c5 K B o n ds l m J (.slice (some ⟨di,off,none⟩) b.toNat cap):=by
 obtain⟨hu,ea,_⟩:=sV aS;intro call aQ S H ax aH;obtain⟨xy,pH,pI⟩:=uP (jr:=k) (top:=cap) (dl:=(k:Int)) (i:=b) (x:=some ar) ax H (by unfold ti;simp only[kM]) aO ad rfl;unfold cL e3;simp only[aj];show mn K.P _ t (ba S.T H x) (hH S.T H none) (hH S.T H (some ar))=_;rw[dg ax H ab,pH,show hH S.T H none=some none from rfl];unfold mn;simp only
 have:kt K.P H t (.slice (some ⟨di,off,none⟩) k cap) none xy=some (.slice (some ⟨di,off,none⟩) b.toNat cap):=by
  unfold kt;simp only[hu,ea];rw[show Nat.beq cap cQ=false from by
   cases ak:Nat.beq cap cQ with
   |false=>rfl
   |true=>have:=eC ak;omega,dB,pI]
  simp only[ks];rw[show Nat.beq cap 0=false from by
   cases ak:Nat.beq cap 0 with
   |false=>rfl
   |true=>have:=eC ak;omega,dB]
  simp
 rw[this];rfl
end
section
variable {K:ef}{B:dy}{R:uK}{ops:List Oper}{a':List jP}{m:a8}{J:an}{o:Oper}{bF:cC->a8->an->Prop}
variable {n:Nat}{ds:eK}{l:List (Nat×Value)}{d i g:Nat}{want b:Bool}
end
section
variable {K:ef}{B:dy}{o:Oper}{n:Nat}{ds:eK}{l:List (Nat×Value)}{m m':a8}{J:an}{e8:cC->a8->an->Prop}
end
end
end Go.Opn
set_option maxRecDepth 100000
namespace Go.Opn
noncomputable section
open Go.Cre Go.RowKit Go.Proofs
def b7(k:IntKind)(l:List Nat):List Value:=l.map fun x:Nat=>Value.int k (x:Int)
theorem oU{k:IntKind}{l:List Nat}:(b7 k l).length=l.length:=g6 _
theorem La{k:IntKind}{l:List Nat}{i x:Nat}(h:l[i]?=some x):(b7 k l)[i]?=some (.int k (x:Int)):=by unfold b7;rw[ko,h];rfl
theorem oV{k:IntKind}{l:List Nat}{i off x:Nat}(h:l[i]?=some x)(aj:off=i:=by omega):nth (b7 k l) off=some (.int k (x:Int)):=by subst aj;rw[lH];exact La h
theorem y4{k:IntKind}{a b:List Nat}:b7 k (a++b)=b7 k a++b7 k b:=Mg
theorem k8{k:IntKind}{l:List Nat}{off:Nat}{x:Nat}(i:Nat)(h:i<l.length)(aj:off=i:=by omega):gw off (b7 k l) [.int k (x:Int)]=some (b7 k (l.set i x)):=by
 subst aj;exact ZL (f:=fun x:Nat=>Value.int k (x:Int)) h
theorem xx{k:IntKind}(l:List Nat):(b7 k l).all ff=true:=by
 induction l with
 |nil=>rfl
 |cons a l aZ=>show(ff (Value.int k (a:Int))&&_)=true;unfold b7 at aZ;rw[aZ];rfl
theorem zero_num{k:IntKind}{n:Nat}:fM [.int k 0] n=b7 k (List.replicate n 0):=by rw[aqQ];unfold b7;rw[List.map_replicate];rfl
def cR(k:IntKind)(J:an)(v:Value)(l:List Nat):Prop:=∃e,fP J e 1 v l.length (b7 k l)
theorem cR.mono{k:IntKind}{J ah:an}(hle:J.le ah){v:Value}{l:List Nat}(h:cR k J v l):cR k ah v l:=by obtain⟨e,h⟩:=h;exact⟨e,h.mono hle⟩
theorem cR.addr{k:IntKind}{J:an}{b:Option Addr}{n c:Nat}{l:List Nat}(h:cR k J (.slice b n c) l):addrEq b b=true:=by obtain⟨e,h⟩:=h;exact h.addr
theorem cR.form{k:IntKind}{J:an}{v:Value}{l:List Nat}(h:cR k J v l):∃b c,v=.slice b l.length c:=by
 obtain⟨e,h⟩:=h;obtain⟨b,c,ad,_⟩:=fP.inv h;exact⟨b,c,ad⟩
theorem cR.et{k:IntKind}{J:an}{b:Option Addr}{n c:Nat}{l:List Nat}(h:cR k J (.slice b n c) l)(ap:0<l.length):∃a off cells e,b=some ⟨a,off,none⟩/\J a=some (cells,e)/\∀i x:Nat,l[i]?=some x->nth cells (off+i*1)=some (.int k (x:Int)):=by
 obtain⟨e,h⟩:=h;obtain⟨b',c',ad,_,_,aV⟩:=fP.inv h;injection ad with bq fL hv
 subst bq;obtain⟨a,off,cells,e,a7,a0,bJ⟩:=aV ap;refine⟨a,off,cells,e,a7,a0,fun i x ab=>?_⟩;have ar:=(gS.1 ab).1;rw[gT,bJ i I];exact La ab
theorem cR.rd{k:IntKind}{g0:Nat}{B:dy}{J:an}{m:a8}{v:Value}{l:List Nat}(h:cR k J v l):mA g0 B J m 1 v l.length (b7 k l):=by obtain⟨e,h⟩:=h;exact h.rd
theorem cR.nil{k:IntKind}{J:an}:cR k J (.slice none 0 0) []:=⟨3,.nil⟩
theorem cR.row{k:IntKind}{J:an}{a n cap:Nat}{l:List Nat}{e:TypeId}(aE:n<=l.length)(aJ:n<=cap)(gY:cap<cQ)(h:J a=some (b7 k l,e)):cR k J (.slice (some ⟨a,0,none⟩) n cap) (l.take n):=by
 have aD:(l.take n).length=n:=by rw[dY];omega
 refine⟨e,?_⟩;rw[aD];refine .row h ?_ ?_ (fun _=>⟨aJ,gY⟩) (fun q=>absurd q I)
 ·rw[hi,gT];unfold b7;rw[zI]
 ·rw[oU,aD,gT]
end
end Go.Opn

/- A part of the proof of TableMetric. -/
import Derived.Test.YtmmfodofkbmfnaaGreatDoorCay
set_option linter.unusedVariables false
set_option linter.unusedSimpArgs false
namespace Go.Opn
noncomputable section
open Go.Cre Go.RowKit
open Classical
def n6 (f:FuncId)(args:List Value)(a7:FrameMode)(H:ah)(r:Ending×FrameMode×ah):FuncId->List Value->Bool->FrameMode->ah->Option (Ending×FrameMode×ah):=fun cd bJ bu eS H'=>if cd=f/\bJ=args/\bu=true/\eS=a7/\H'=H then some r else none
def u4{P:Program}(Q:eF P)(f:FuncId)(args:List Value)(a7:FrameMode)(H:ah)(e:Ending)(eS:FrameMode)(H':ah):Prop:=∀B w0,Q.ok B w0->oY P B w0 (n6 f args a7 H (e,eS,H'))
def mc {P:Program}(Q:eF P)(eR:Code->aO->ah->Option (Exit×aO×ah))(sL:FuncId->List Value->Bool->FrameMode->ah->Option (Ending×FrameMode×ah)):eC:=
 ⟨n5 Q eR,fun f args bu a7 H=>if bu=true then(match sL f args bu a7 H with
  |some (e,gv,H')=>if u4 Q f args a7 H e gv H' then some (e,gv,H') else none
  |none=>none) else none⟩
section
variable {P:Program}{Q:eF P}{B:Nat->Prop}{w0:World}
theorem HF(eR:Code->aO->ah->Option (Exit×aO×ah))(sL:FuncId->List Value->Bool->FrameMode->ah->Option (Ending×FrameMode×ah))(eQ:Q.ok B w0):oY P B w0 (mc Q eR sL).body:=by
 intro f args a7 H e eS H' he;unfold mc at he;simp only[BW] at he;split at he
 ·split at he
  ·rename_i et;simp only[bL,cU] at he;obtain⟨rfl,rfl,rfl⟩:=he;exact et B w0 eQ f args a7 H _ _ _ (by unfold n6;rw[bs ⟨rfl,rfl,rfl,rfl,rfl⟩])
  ·cases he
 ·cases he
theorem OA(eR:Code->aO->ah->Option (Exit×aO×ah)){f:FuncId}{args:List Value}{a7 eS:FrameMode}{H H':ah}{e:Ending}(h:u4 Q f args a7 H e eS H'):(mc Q eR (n6 f args a7 H (e,eS,H'))).body f args true a7 H=some (e,eS,H'):=by
 unfold mc;simp only[BW];have:n6 f args a7 H (e,eS,H') f args true a7 H=some (e,eS,H'):=by unfold n6;rw[bs ⟨rfl,rfl,rfl,rfl,rfl⟩]
 rw[this];simp only;rw[bs h]
def wM:FuncId->List Value->Bool->FrameMode->ah->Option (Ending×FrameMode×ah):=fun _ _ _ _ _=>none
theorem iA.CD{eo:aL Func}(dN:n1 P eo){f:FuncId}{fn:Func}{c:Code}{args:List Value}{T:aL Value}{H H1 H':ah}{aY:aO}{x:Exit}{e:Ending}{a7:FrameMode}(sL:FuncId->List Value->Bool->FrameMode->ah->Option (Ending×FrameMode×ah))(ay:eo.get f=some fn)(af:fn.body=some c)(aK:ki args 0 (Go.Cre.blank fn.ntmps)=some T)
 (aF:c2 Q c ⟨T,fn.ntmps,[],false,.run,none⟩ H x aY H1)(he:ql P (mc Q (iH c ⟨T,fn.ntmps,[],false,.run,none⟩ H (x,aY,H1)) sL) fn (some (x,aY,H1))=some (e,a7,H')):iA Q f args H e H':=by
 intro B w0 eQ f1 o7 lC aA Al oq;unfold nc at oq;split at oq
 ·rename_i q;obtain⟨rfl,rfl,rfl⟩:=q;simp only[bL,cU] at oq;obtain⟨rfl,rfl⟩:=oq;refine DY (E:=mc Q (iH c ⟨T,fn.ntmps,[],false,.run,none⟩ lC (x,aY,H1)) sL) dN (vn _ eQ) (HF _ sL eQ) f1 o7 lC _ _ ?_;unfold eC.call;simp only
  have:nh P eo (mc Q (iH c ⟨T,fn.ntmps,[],false,.run,none⟩ lC (x,aY,H1)) sL) f1 o7 false .run lC=some (e,a7,H'):=by
   unfold nh;rw[ay];show xM P _ f1 fn o7 false .run lC fn.body=_;rw[af];show xN P _ fn c false .run lC (ki o7 0 (Go.Cre.blank fn.ntmps))=_;rw[aK];show ql P _ fn (n5 Q _ c ⟨T,fn.ntmps,[],false,.run,none⟩ lC)=_;rw[vm aF];exact he
  rw[this]
 ·cases oq
theorem u4.run{eo:aL Func}(dN:n1 P eo){f:FuncId}{fn:Func}{c:Code}{args:List Value}{T:aL Value}{H H1 H':ah}{aY:aO}{x:Exit}{e:Ending}{u a7:FrameMode}(ay:eo.get f=some fn)(af:fn.body=some c)(aK:ki args 0 (Go.Cre.blank fn.ntmps)=some T)
 (aF:c2 Q c ⟨T,fn.ntmps,[],true,u,none⟩ H x aY H1)(he:ql P (mc Q (iH c ⟨T,fn.ntmps,[],true,u,none⟩ H (x,aY,H1)) wM) fn (some (x,aY,H1))=some (e,a7,H')):u4 Q f args u H e a7 H':=by
 intro B w0 eQ f1 o7 jS lC aA G8 Al oq;unfold n6 at oq;split at oq
 ·rename_i q;obtain⟨rfl,rfl,_,rfl,rfl⟩:=q;simp only[bL,cU] at oq;obtain⟨rfl,rfl,rfl⟩:=oq;refine Jo (E:=mc Q (iH c ⟨T,fn.ntmps,[],true,jS,none⟩ lC (x,aY,H1)) wM) dN (vn _ eQ) (HF _ wM eQ) f1 o7 jS lC _ _ _ ?_;unfold nh;rw[ay];show xM P _ f1 fn o7 true jS lC fn.body=_;rw[af];show xN P _ fn c true jS lC (ki o7 0 (Go.Cre.blank fn.ntmps))=_;rw[aK];show ql P _ fn (n5 Q _ c ⟨T,fn.ntmps,[],true,jS,none⟩ lC)=_;rw[vm aF];exact he
 ·cases oq
end
section
variable {K:di}{B:c6}{f:FuncId}{fn:Func}{c:Code}{args:List Value}{ck:aU}{J:an}
def u6(K:di)(f:FuncId)(args:List Value)(ck:aU)(J:an)(k0:Value->aU->an->Prop)(m5:List PanicEntry->aU->an->Prop):Prop:=
 ∀H,Inv K.g0 (iZ ck H J) J ck H->∃H' ai m',Inv K.g0 (iZ ck H J) ai m' H'/\((∃v,iA K.Q f args H (.returned v) H'/\k0 v m' ai)\/∃bT,iA K.Q f args H (.panicked bT) H'/\m5 bT m' ai)
theorem u6.Ye{k0:Value->aU->an->Prop}(h:u6 K f args ck J k0 fun _ _ _=>False):Fn K f args ck J k0:=fun H au=>by
 obtain⟨H',ai,m',U,ab⟩:=h H au;rcases ab with⟨v,aV,br⟩|⟨bT,aV,br⟩
 ·exact⟨v,H',ai,m',aV,U,br⟩
 ·exact br.elim
def ry(K:di)(f:FuncId)(args:List Value)(a7:FrameMode)(ck:aU)(J:an)(er:FrameMode->aU->an->Prop):Prop:=
 ∀H,Inv K.g0 (iZ ck H J) J ck H->∃v eS H' ai m',u4 K.Q f args a7 H (.returned v) eS H'/\Inv K.g0 (iZ ck H J) ai m' H'/\er eS m' ai
def Jf(a7:FrameMode):dL:=⟨[],none,true,a7⟩
theorem IF{fn:Func}{args:List Value}{fz:dL}(aw:Nat.ble args.length fn.ntmps=true):∃T,ki args 0 (Go.Cre.blank fn.ntmps)=some T/\∀bu a7,fz=⟨[],none,bu,a7⟩->Sat ⟨fn.ntmps,fz,rO args 0⟩ ⟨T,fn.ntmps,[],bu,a7,none⟩:=by
 obtain⟨T,bP,bS,cE⟩:=IG (vs:=args) (i:=0) (n:=fn.ntmps) (IP fn.ntmps) (by have:=fV aw;omega);refine⟨T,bP,fun bu a7 ax=>?_⟩;subst ax;refine⟨rfl,rfl,rfl,rfl,rfl,bS,fun t v q=>?_⟩;obtain⟨_,aP⟩:=IE q;show T.get t=some v;have:t<args.length:=by
  rcases gX t args.length with r|r
  ·exact r
  ·rw[s7 (by omega)] at aP;cases aP
 rw[cE,bs (by omega)];exact aP
theorem ry.cH{a7:FrameMode}{er:FrameMode->aU->an->Prop}(ay:K.eo.get f=some fn)(af:fn.body=some c)(aw:Nat.ble args.length fn.ntmps=true)
 (h:∀H,ad K (iZ ck H J) c ⟨fn.ntmps,Jf a7,rO args 0⟩ ck J fun e E m ai=>(e=.normal\/e=.ret)/\E.ds.ds=[]/\∃vs m',lF K.P E m ai fn.results.toList vs/\m'.Sublist m/\er E.ds.a7 m' ai):ry K f args a7 ck J er:=by
 intro H au;obtain⟨T,bP,bS⟩:=IF (fz:=Jf a7) aw;have al:=bS true a7 rfl;obtain⟨e,aB,H',cy,cM,ai,a8,a5,bI,cL,gy,vs,m',kq,ss,st⟩:=h H _ H al au;have qE:aB.ds=[]:=a5.ds.trans gy;have ap:=kq.vw a5 bI;refine⟨pQ vs,aB.a7,H',ai,m',?_,bI.sub ss,by rw[a5.a7];exact st⟩;refine u4.run K.dN ay af bP a8 ?_;rcases cL with rfl|rfl
 ·show na aB.a7 (gF K.P _ fn aB.T aB.ds .returning H')=_;rw[qE];unfold gF;rw[ap];rfl
 ·show na aB.a7 (gF K.P _ fn aB.T aB.ds .returning H')=_;rw[qE];unfold gF;rw[ap];rfl
def Ge:Exit->Option FrameMode
 |.normal=>some .returning
 |.ret=>some .returning
 |.panic bT=>some (.panicking bT)
 |_=>none
def Ends(K:di)(fn:Func)(E:bK)(m:aU)(J:an)(u:FrameMode)(k0:Value->aU->an->Prop)(m5:List PanicEntry->aU->an->Prop):Prop:=
 (u=.returning/\∃vs m',lF K.P E m J fn.results.toList vs/\m'.Sublist m/\k0 (pQ vs) m' J)\/∃bT m',u=.panicking bT/\m'.Sublist m/\m5 bT m' J
def Leaves(K:di)(fn:Func)(e:Exit)(E:bK)(m:aU)(J:an)(k0:Value->aU->an->Prop)(m5:List PanicEntry->aU->an->Prop):Prop:=
 ∃u,Ge e=some u/\((E.ds.ds=[]/\Ends K fn E m J u k0 m5)\/
  ∃fd cap pg ck e8,E.ds.ds=[⟨.fn (.func fd) cap,pg⟩]/\(ck++e8).Perm m/\ry K fd (pg.toList++cap.toList) u ck J fun gv m' ai=>J.le ai->Ends K fn E (m'++e8) ai (settle gv) k0 m5)
theorem AO{P:Program}{E:eC}{e:Exit}{u:FrameMode}{S:aO}{H:ah}(h:Ge e=some u):ql P E fn (some (e,S,H))=na S.a7 (gF P E fn S.T S.ds u H):=by
 cases e<;>first|(injection h with h;subst h;rfl)|cases h
theorem Ends.vw{E:bK}{m:aU}{u:FrameMode}{k0:Value->aU->an->Prop}{m5:List PanicEntry->aU->an->Prop}{S:aO}{H:ah}{V:eC}(h:Ends K fn E m J u k0 m5)(al:Sat E S)(au:Inv K.g0 B J m H):
 ∃m',Inv K.g0 B J m' H/\((∃v,gF K.P V fn S.T [] u H=some (.returned v,H)/\k0 v m' J)\/∃bT,gF K.P V fn S.T [] u H=some (.panicked bT,H)/\m5 bT m' J):=by
 rcases h with⟨rfl,vs,m',U,ab,aV⟩|⟨bT,m',rfl,ab,aV⟩
 ·refine⟨m',au.sub ab,.inl ⟨pQ vs,?_,aV⟩⟩;unfold gF;rw[U.vw al au]
 ·exact⟨m',au.sub ab,.inr ⟨bT,by unfold gF;rfl,aV⟩⟩
theorem V0{e:Exit}{u:FrameMode}(h:Ge e=some u):BY u=false:=by
 cases e<;>first|(injection h with h;subst h;rfl)|cases h
theorem u6.cH{k0:Value->aU->an->Prop}{m5:List PanicEntry->aU->an->Prop}(ay:K.eo.get f=some fn)(af:fn.body=some c)(aw:Nat.ble args.length fn.ntmps=true)
 (h:∀H,ad K (iZ ck H J) c ⟨fn.ntmps,A3,rO args 0⟩ ck J fun e E m ai=>Leaves K fn e E m ai k0 m5):u6 K f args ck J k0 m5:=by
 intro H au;obtain⟨T,bP,bS⟩:=IF (fz:=A3) aw;have al:=bS false .run rfl;obtain⟨e,aB,H',cy,cM,ai,a8,a5,bI,u,cL,gy⟩:=h H _ H al au;have Bk:=a5.ds;rcases gy with⟨gy,kq⟩|⟨fd,cap,pg,acv,e8,gy,kq,ss⟩
 ·obtain⟨m',U,ab⟩:=kq.vw (V:=mc K.Q (iH c ⟨T,fn.ntmps,[],false,.run,none⟩ H (e,aB,H')) wM) a5 bI;refine⟨H',ai,m',U,?_⟩;rcases ab with⟨v,ab,aV⟩|⟨bT,ab,aV⟩
  ·refine .inl ⟨v,iA.CD K.dN wM ay af bP a8 (a7:=aB.a7) ?_,aV⟩;rw[AO cL,Bk,gy,ab];rfl
  ·refine .inr ⟨bT,iA.CD K.dN wM ay af bP a8 (a7:=aB.a7) ?_,aV⟩;rw[AO cL,Bk,gy,ab];rfl
 ·obtain⟨v,eS,bG,eL,gz,d1,d2,d3⟩:=ss H' (bI.enter kq trivial);obtain⟨st,FY⟩:=bI.leave kq d2;obtain⟨m',U,ab⟩:=(d3 FY).vw (V:=mc K.Q (iH c ⟨T,fn.ntmps,[],false,.run,none⟩ H (e,aB,H')) (n6 fd (pg.toList++cap.toList) u H' (.returned v,eS,bG))) a5 st
  have v5:∀r,gF K.P (mc K.Q (iH c ⟨T,fn.ntmps,[],false,.run,none⟩ H (e,aB,H')) (n6 fd (pg.toList++cap.toList) u H' (.returned v,eS,bG))) fn aB.T [] (settle eS) bG=some r->
   gF K.P (mc K.Q (iH c ⟨T,fn.ntmps,[],false,.run,none⟩ H (e,aB,H')) (n6 fd (pg.toList++cap.toList) u H' (.returned v,eS,bG))) fn aB.T [⟨.fn (.func fd) cap,pg⟩] u H'=some r:=fun r ap=>by
   rw[gF];rw[V0 cL,cZ];simp only
   show(match ji K.P H' (.func fd) pg.toList cap.toList with|none=>none|some (f,args)=>_)=_
   unfold ji;simp only
   rw[OA _ d1];exact ap
  refine⟨bG,eL,m',U,?_⟩;rcases ab with⟨w,ab,aV⟩|⟨bT,ab,aV⟩
  ·refine .inl ⟨w,iA.CD K.dN (n6 fd (pg.toList++cap.toList) u H' (.returned v,eS,bG)) ay af bP a8 (a7:=aB.a7) ?_,aV⟩;rw[AO cL,Bk,gy,v5 _ ab];rfl
  ·refine .inr ⟨bT,iA.CD K.dN (n6 fd (pg.toList++cap.toList) u H' (.returned v,eS,bG)) ay af bP a8 (a7:=aB.a7) ?_,aV⟩;rw[AO cL,Bk,gy,v5 _ ab];rfl
end
section
variable {K:di}{B:c6}{ops rest:List Oper}{o:Oper}{n:Nat}{ds:dL}{l:List (Nat×Value)}{d:Nat}{m:aU}{J:an}{bt:Option (List PanicEntry)->bK->aU->an->Prop}
theorem Mm{S:aO}{H:ah}{eR:Code->aO->ah->Option (Exit×aO×ah)}{bx:dI}(ar:o.guard=none):one K.P (hs K.Q bx) (gl K.Q eR bx).az ops S H o=mR S H o.dst (cc K.P (hs K.Q bx) (gl K.Q eR bx).az S H o):=by
 unfold one eI;rw[ar];rfl
theorem W.defer{c:Call}{x:Operand}{f:FuncId}{first cap:Array Value}{args:List Value}(ar:o.guard=none)(ae:o.op=.defer c)(ax:o.dst=none)(aF:c.callee=.value x)(j:bB l x=some (.func (.func f) first cap))(aK:hz l c.args.toList=some args)(ap:ds.b3=none)
 (h:W K B ops rest ⟨n,⟨⟨.fn (.func f) cap,(first.toList++args).toArray⟩::ds.ds,ds.b3,ds.bu,ds.a7⟩,l⟩ m J bt):W K B ops (o::rest) ⟨n,ds,l⟩ m J bt:=by
 intro S H al au;have vP:Sat ⟨n,⟨⟨.fn (.func f) cap,(first.toList++args).toArray⟩::ds.ds,ds.b3,ds.bu,ds.a7⟩,l⟩ (S.xf ⟨.fn (.func f) cap,(first.toList++args).toArray⟩):=by
  obtain⟨T,uu,dT,QO,eS,Yf⟩:=S;exact⟨al.n,(by show _::dT=_::ds.ds;rw[show dT=ds.ds from al.ds]),al.bu,al.a7,al.b3,al.has,al.get⟩
 obtain⟨p,aB,o1,cy,q2,p9,cJ,cW,eE,hD⟩:=h _ H vP au;refine⟨p,aB,o1,cy,q2,p9,.cons hB jM ?_ cJ,cW,eE,hD⟩;rw[Mm ar];have ow:S.b3=none:=al.b3.trans ap;have:cc K.P (hs K.Q jM) (gl K.Q hB jM).az S H o=some (.fN ⟨.fn (.func f) cap,(first.toList++args).toArray⟩):=by
  unfold cc eh;simp only[ae];show pS K.P _ c=_;unfold pS;simp only[ow];unfold ya;rw[mq al H aK];simp only[aF];rw[cX al H j];rfl
 rw[this,ax];show uz S H none _=_;unfold uz;rw[ow];rfl
def MR (ds:dL):Option (Value×FrameMode):=
 match ds.b3 with
 |some _=>none
 |none=>bif ds.bu then(match ds.a7 with
  |.panicking ({v,recovered:=false,goexit:=false}::Cn)=>some (v,.panicking ({v,recovered:=true}::Cn))
  |m=>some (.nilIface,m))
  else some (.nilIface,ds.a7)
theorem W.recover{c:Call}{v:Value}{a7:FrameMode}(ar:o.guard=none)(ae:o.op=.call c)(aF:c.callee=.builtin .recover)(aK:c.args.toList=[])(ax:o.dst=some d)(aE:Nat.blt d n=true)(ap:MR ds=some (v,a7))
 (h:W K B ops rest ⟨n,⟨ds.ds,ds.b3,ds.bu,a7⟩,(d,v)::l⟩ m J bt):W K B ops (o::rest) ⟨n,ds,l⟩ m J bt:=by
 intro S H al au;have nm:Sat ⟨n,⟨ds.ds,ds.b3,ds.bu,a7⟩,l⟩ (S.rq a7):=by
  obtain⟨T,uu,dT,QO,eS,Yf⟩:=S;exact⟨al.n,al.ds,al.bu,rfl,al.b3,al.has,al.get⟩
 obtain⟨aY,s1,s2⟩:=nm.put (dst:=some d) aE v;obtain⟨p,aB,o1,cy,q2,p9,cJ,cW,eE,hD⟩:=h aY H s2 au;refine⟨p,aB,o1,cy,q2,p9,.cons hB jM ?_ cJ,cW,eE,hD⟩;rw[Mm ar];have:cc K.P (hs K.Q jM) (gl K.Q hB jM).az S H o=some .uI:=by
  unfold cc eh;simp only[ae];show js K.P _ c=_;unfold js;rw[aF];simp only
  unfold mr;rw[aK];rfl
 rw[this,ax];show zF S H (some d) (mU S)=_;have e:mU S=some (v,a7):=by
  unfold mU;unfold MR at ap;rw[al.b3,al.bu,al.a7];exact ap
 rw[e];show jc (S.rq a7) (some d) v H=_;show mV H ((S.rq a7).put (some d) v)=_;rw[s1];rfl
end
section
variable {g0:Nat}{B:c6}{H:ah}{J:an}{m m':aU}
theorem Inv.X'{a z:Nat}{full:List Value}{e:TypeId}{rest:List Nat}(h:Inv g0 B J ((a,.opn full e rest z)::m) H)(cells':List Value):
 ∃f H1 bG f',H.mem.get a=some (.row full e true f z false)/\H.ba.get f=some (a::rest)/\nA H H.av (a::rest)=some H1/\H1.mW f [H.av]=some bG/\H1.av=H.av/\bG.av=H.av/\bG.new (.row cells' e true f z false)=some (H.av,f')/\Inv g0 B J ((H.av,.opn cells' e [] z)::m) f':=by
 obtain⟨a8,a5,bI,cL⟩:=h.own a _ (.head _);obtain⟨f,f1,f2,f3⟩:=a8;have cx:=h.lt (.head _);have dk:=h.eY;rw[show ids ((a,db.opn full e rest z)::m)=a::(rest++ids m) from rfl,qb,m3,Av] at dk;obtain⟨v7,yS,BD,EQ⟩:=dk;have Fs:∀x∈a::rest,x<H.av:=fun x j=>by
  rcases fy.1 j with q|q
  ·subst q;exact cx
  ·exact(h.opn a _ (.head _) x q).1
 obtain⟨H1,aA,bc⟩:=Lm (lg:=H.av) (a::rest) h.wf Fs;obtain⟨v1,v2,z0,v4,Zs,v6⟩:=B0 aA;have gU:f<H1.bM:=by rw[z0];exact h.wf.yh f3
 obtain⟨bG,aW⟩:=bc.mW [H.av] gU;obtain⟨s2,s1,iP,uO,nL⟩:=ah.w4 aW;have ib:bG.av=H.av:=by rw[s2,v1]
 have ud:∀x,x≠a->x∉rest->bG.mem.get x=H.mem.get x:=fun x aQ aP=>by
  rw[s1,v6 x (.inl (fun q=>by rcases fy.1 q with q|q;exact aQ q;exact aP q))]
 have yI:∀g,g≠f->bG.ba.get g=H.ba.get g:=fun g q=>by rw[nL,a1 q,v2]
 have hm:Inv g0 B J m bG:=by
  refine⟨bc.GS gU aW,by rw[uO,v4];exact h.bf,by rw[ib];exact h.av,by rw[iP,z0];exact h.bM,fun x j fA=>?_,fun g ar=>?_,fun x c bl aX=>?_,h.le,h.fresh,fun x b af=>?_,fun x b af y aC=>by rw[ib];exact h.opn x b (.tail _ af) y aC,BD⟩
  ·rw[ud x (fun q=>by subst q;rcases a5 with q|q;·omega
                      ·exact fA q) (fun q=>by rcases(h.opn a _ (.head _) x q).2.1 with r|r;·omega
                                              ·exact fA r)]
   exact h.eN x j fA
  ·rw[yI g (fun q=>ar (by rw[q];exact f1))];exact h.j' g ar
  ·obtain⟨o,cd,je,s,q⟩:=h.dv x c bl aX
   exact⟨o,cd,je,s,by rw[ud x (fun r=>by subst r;rw[bI] at aX;cases aX) (fun r=>by have:=(h.opn a _ (.head _) x r).2.2;rw[this] at aX;cases aX)];exact q⟩
  ·obtain⟨eJ,ei,iu,ka⟩:=h.own x b (.tail _ af)
   have uk:x∈ids m:=um af;refine⟨?_,ei,iu,ka⟩;refine db.rQ eJ (ud x (fun r=>v7 (.inr (r▸uk))) (fun r=>EQ _ r _ uk rfl)) fun g r ar=>?_;rw[yI g (fun cR=>by
        subst cR;rw[f3] at ar;injection ar with ar;injection ar with ar
        exact v7 (.inr (ar▸uk)))]
   exact ar
 obtain⟨f',cr⟩:=hm.wf.new (.row cells' e true f z false);obtain⟨_,dn,ep,fp,hi,ed⟩:=ah.l3 cr;refine⟨f,H1,bG,f',f2,f3,aA,aW,v1,ib,by rw[<-ib];exact cr,?_⟩;have ab:Inv g0 B J m f':=by
  refine⟨hm.wf.Gj cr,hi.trans hm.bf,by have:=hm.av;omega,by rw[fp];exact hm.bM,fun x j fA=>?_,fun g ar=>by rw[ep];exact hm.j' g ar,fun x c e aX=>?_,hm.le,hm.fresh,fun x b af=>?_,fun x b af y aC=>?_,hm.eY⟩
  ·rw[ed,a1 (by have:=hm.av;omega)];exact hm.eN x j fA
  ·obtain⟨o,f,z,s,q⟩:=hm.dv x c e aX
   exact⟨o,f,z,s,by rw[ed,a1 (by have:=hm.wf.lt q;omega)];exact q⟩
  ·obtain⟨eJ,ei,iu,ka⟩:=hm.own x b af
   exact⟨db.rQ eJ (by rw[ed,a1 (by have:=hm.lt af;omega)]) (fun f l ay=>by rw[ep];exact ay),ei,iu,ka⟩
  ·obtain⟨eJ,ei,iu⟩:=hm.opn x b af y aC
   exact⟨by omega,ei,iu⟩
 refine⟨ab.wf,ab.bf,ab.av,ab.bM,ab.eN,ab.j',ab.dv,ab.le,ab.fresh,fun x b af=>?_,fun x b af y aC=>?_,?_⟩
 ·rcases fy.1 af with q|q
  ·injection q with aQ aP;subst aQ;subst aP
   exact⟨⟨f,f1,by rw[ed,ib,bs rfl],by rw[ep,nL,bs rfl]⟩,.inl h.av,h.Gk,h.El⟩
  ·exact ab.own x b q
 ·rcases fy.1 af with q|q
  ·injection q with aQ aP;subst aQ;subst aP;cases aC
  ·exact ab.opn x b q y aC
 ·show(H.av::([]++ids m)).Nodup
  rw[rD,qb];refine⟨fun q=>?_,BD⟩;have:=hm.B6 q;omega
end
structure Hw (e:TypeId) (sz:Nat) (v:Value) (k:Nat) (cells:List Value) (bq:aU) (a:Nat) (full:List Value) (rest:List Nat) (z:Nat):Prop where
 v:v=.slice (some ⟨a,0,none⟩) k cf
 bq:bq=[(a,.opn full e rest z)]
 lt:k*sz<full.length
 cut:full.take (k*sz)=cells
 z:z<=k*sz
section
variable {K:di}{B:c6}{o:Oper}{n:Nat}{ds:dL}{l:List (Nat×Value)}{m m':aU}{J:an}{dS:bK->aU->an->Prop}{d:Nat}
theorem aai{c:Call}{t fK e:TypeId}{sz k aa a z:Nat}{fc cells new full:List Value}{rest:List Nat}{v x:Value}{bq dK:aU}{fz:TypeDesc}(ae:o.op=.call c)(aF:c.callee=.builtin .append)(ax:o.dst=some d)(aE:Nat.blt d n=true)(aK:hz l c.args.toList=some [v,x])(nw:c.argTypes.toList=[t,fK])(aG:jd K.P t=some (e,sz,fc))(h0:K.P.underlying fK=some fz)(pz:∀i,fz≠.int i)
 (aD:Hw e sz v k cells bq a full rest z)(hm:m.Perm (bq++dK))(j:jg K.g0 B J m sz x aa new)(dQ:new.length=aa*sz)(dV:new.all dY=true)(aX:0<aa)(aw:k+aa<=1000000)
 (h:∀w g7,Acc e sz w (k+aa) (cells++new) g7->(z=0->je g7)->q3 g7->dS ⟨n,ds,(d,w)::l⟩ (g7++dK) J):g' K B o ⟨n,ds,l⟩ m J dS:=by
 obtain⟨rfl,rfl,cx,vU,fC⟩:=aD;obtain⟨hu,de,fG,u1,fQ,a0,bV,rfl,b7,c5,dM⟩:=ri aG;refine g'.uW ax aE fun S H al au=>?_;obtain⟨fa,fh⟩:=j H au;have au:=au.perm hm;have fo:∀call az,cc K.P call az S H o=jT (lK K.P H t (.slice (some ⟨a,0,none⟩) k cf) x):=fun call az=>by
  rw[vx ae aF];unfold mr;rw[mq al H aK,nw];simp only[h0]
 have hY:(!(Nat.ble (k+aa) 1000000&&Nat.ble fG 1000000&&Nat.beq u1.cells.toList.length sz))=false:=by
  rw[bV,b7,ga,show Nat.ble (k+aa) 1000000=true from jx aw];rfl
 have nr:(!(new.all dY&&Nat.beq new.length (aa*sz)))=false:=by
  rw[dV,dQ,ga];rfl
 have jH:cells.length=k*sz:=by rw[<-vU,hQ];omega
 obtain⟨f,H1,bG,f',b4,b0,cI,eM,eH,fg,e2,lM⟩:=Inv.X' (m:=dK) au (cells++new);have mB:Nat.blt a H.bf=false:=by
  cases q:Nat.blt a H.bf
  ·rfl
  ·have:a<H.bf:=by simpa[Nat.blt,o5] using q
   have:=(au.own _ _ (.head _)).2.2.2;have:=au.bf;omega
 have sq:Nat.ble z (0+k*sz)=true:=jx (by omega);refine⟨.slice (some ⟨H.av,0,none⟩) (k+aa) cf,f',(H.av,.opn (cells++new) e [] z)::dK,J,fun call az=>?_,lM,?_⟩
 ·rw[fo];have E3:Nat.beq aa 0=false:=by
   cases q:Nat.beq aa 0
   ·rfl
   ·exact absurd (dB q) (by omega)
  have hle:Nat.beq full.length (k*sz)=false:=by
   cases q:Nat.beq full.length (k*sz)
   ·rfl
   ·exact absurd (dB q) (by omega)
  have FE:takeN (k*sz) full=some cells:=by rw[sT (by omega),vU]
  unfold lK;simp only[hu,de,fQ,a0,fa,hY,cZ,fh,nr,ga,bH,b4,mB,HB,u3,sq,kB,E3,FE,b0,rV,hle,x2,cI,eH,eM,fg,e2];rfl
 ·exact h (.slice (some ⟨H.av,0,none⟩) (k+aa) cf) [(H.av,.opn (cells++new) e [] z)] (.opn (by rw[hP,jH,dQ,hH]) (by rw[hP];omega)) (fun q bA bo bl r fv hm=>by rcases fy.1 hm with r|r;(cases r;exact q);cases r) (fun bA bo bl hm=>by rcases fy.1 hm with r|r;cases r;cases r)
theorem Hb{t e:TypeId}{x:Operand}{aq:Operand}{sz a len z:Nat}{fc full:List Value}{rest:List Nat}{b:Int}{pH:IntKind}(ae:o.op=.slice t x none (some aq) none)(j:bB l x=some (.slice (some ⟨a,0,none⟩) len cf))(iX:bB l aq=some (.int pH b))(aG:jd K.P t=some (e,sz,fc))(hm:(a,db.opn full e rest z)∈m)(a2:0<=b)(U:b<=len):
 ch K B o n ds l m J (.slice (some ⟨a,0,none⟩) b.toNat cf):=by
 obtain⟨hu,de,fG,u1,fQ,a0,bV,rfl,b7,c5,dM⟩:=ri aG;intro call az S H al au;obtain⟨f,_,jK,_⟩:=(au.own _ _ hm).1;unfold cc eh;simp only[ae];show kv K.P _ t (aR S.T H x) (some none) (gA S.T H (some aq))=_;rw[cX al H j];show kv K.P _ t _ (some none) (match aR S.T H aq with|some v=>some (some v)|none=>none)=_
 rw[cX al H iX];have yC:lY b len=some b.toNat:=by
  obtain⟨c,rfl⟩:∃c:Nat,b=(c:Int):=⟨b.toNat,by omega⟩;show(bif Nat.ble c len then some c else none)=_;rw[show Nat.ble c len=true from jx (by omega)];rfl
 have:iI K.P H t (.slice (some ⟨a,0,none⟩) len cf) none (some (.int pH b))=some (.slice (some ⟨a,0,none⟩) b.toNat cf):=by
  unfold iI;simp only[hu,de,ga,bH,jK,kB,cZ,ik,yC,qf,n0];rfl
 show orElse (e' (iI K.P H t (.slice (some ⟨a,0,none⟩) len cf) none (some (.int pH b))) H) _=_;rw[this];rfl
end
def eK(e:TypeId)(sz:Nat)(v:Value)(k:Nat)(cells:List Value)(bq:aU):Prop:=(Acc e sz v k cells bq/\je bq/\q3 bq)\/∃a full rest,Hw e sz v k cells bq a full rest 0
theorem eK.form{e:TypeId}{sz k:Nat}{v:Value}{cells:List Value}{bq:aU}(h:eK e sz v k cells bq):(∃b,v=.slice b 0 0/\k=0/\cells=[]/\bq=[])\/∃a full rest,v=.slice (some ⟨a,0,none⟩) k cf/\bq=[(a,.opn full e rest 0)]/\full.take (k*sz)=cells/\k*sz<=full.length:=by
 rcases h with⟨h,a0,aE⟩|⟨a,full,rest,U,ab,aV,br,gq⟩
 ·cases h with
  |nil=>exact .inl ⟨_,rfl,rfl,rfl,rfl⟩
  |hy a=>exact .inl ⟨_,rfl,rfl,rfl,rfl⟩
  |opn U ab=>
   have:=a0 _ _ _ _ _ (.head _);subst this;exact .inr ⟨_,_,_,rfl,rfl,by rw[<-U,tb],by omega⟩
  |cap=>exact absurd (.head _) (aE _ _ _)
 ·exact .inr ⟨a,full,rest,U,ab,br,by omega⟩
theorem eK.of{e:TypeId}{sz k a:Nat}{full:List Value}{rest:List Nat}(hk:k*sz<=full.length):eK e sz (.slice (some ⟨a,0,none⟩) k cf) k (full.take (k*sz)) [(a,.opn full e rest 0)]:=by
 by_cases q:k*sz=full.length
 ·refine .inl ⟨?_,fun bA c bl r z hm=>?_,fun bA c bl hm=>?_⟩
  ·have:=Acc.opn (a:=a) (e:=e) (rest:=rest) (z:=0) q.symm (fj _);rw[q,tb];exact this
  ·rcases fy.1 hm with q|q
   ·cases q;rfl
   ·cases q
  ·rcases fy.1 hm with q|q
   ·cases q
   ·cases q
 ·exact .inr ⟨a,full,rest,rfl,rfl,by omega,rfl,fj _⟩
theorem eK.cut{e:TypeId}{sz k ir:Nat}{v:Value}{cells:List Value}{bq:aU}(h:eK e sz v k cells bq)(hk:ir<=k)(a2:0<k):∃a full rest,v=.slice (some ⟨a,0,none⟩) k cf/\bq=[(a,.opn full e rest 0)]/\eK e sz (.slice (some ⟨a,0,none⟩) ir cf) ir (cells.take (ir*sz)) bq:=by
 rcases h.form with⟨b,_,q,_⟩|⟨a,full,rest,rfl,rfl,rfl,br⟩
 ·omega
 ·have:ir*sz<=k*sz:=kf _ hk;refine⟨a,full,rest,rfl,rfl,?_⟩;rw[rE,h5 this];exact eK.of (by omega)
theorem eK.row{e:TypeId}{sz k:Nat}{v:Value}{cells:List Value}{bq:aU}(h:eK e sz v k cells bq)(a2:0<k):∃a full rest,v=.slice (some ⟨a,0,none⟩) k cf/\bq=[(a,.opn full e rest 0)]/\full.take (k*sz)=cells/\k*sz<=full.length:=by
 rcases h.form with⟨b,_,q,_⟩|q
 ·omega
 ·exact q
theorem Gn{full cells:List Value}{n i:Nat}(h:full.take n=cells)(aq:i<n):nth full i=nth cells i:=by
 rw[jr,jr,<-h,HT aq]
section
variable {K:di}{B:c6}{o:Oper}{n:Nat}{ds:dL}{l:List (Nat×Value)}{m m':aU}{J:an}{dS:bK->aU->an->Prop}{d:Nat}
theorem Og{c:Call}{t fK e:TypeId}{sz k aa:Nat}{fc cells new:List Value}{v x:Value}{bq dK:aU}{fz:TypeDesc}(ae:o.op=.call c)(aF:c.callee=.builtin .append)(ax:o.dst=some d)(aE:Nat.blt d n=true)(aK:hz l c.args.toList=some [v,x])(nw:c.argTypes.toList=[t,fK])(aG:jd K.P t=some (e,sz,fc))(h0:K.P.underlying fK=some fz)(pz:∀i,fz≠.int i)
 (aD:eK e sz v k cells bq)(hm:m.Perm (bq++dK))(j:jg K.g0 B J m sz x aa new)(dQ:new.length=aa*sz)(dV:new.all dY=true)(aX:0<aa)(aw:k+aa<=1000000)
 (h:∀w g7,eK e sz w (k+aa) (cells++new) g7->dS ⟨n,ds,(d,w)::l⟩ (g7++dK) J):g' K B o ⟨n,ds,l⟩ m J dS:=by
 rcases aD with⟨aD,U,ab⟩|⟨a,full,rest,aD⟩
 ·exact rr ae aF ax aE aK nw aG h0 pz aD hm j dQ dV aw fun w g7 q r=>h w g7 (.inl ⟨q,r.1 U,r.2 ab⟩)
 ·exact aai ae aF ax aE aK nw aG h0 pz aD hm j dQ dV aX aw fun w g7 q cJ cW=>h w g7 (.inl ⟨q,cJ rfl,cW⟩)
end
section
variable {K:di}{B:c6}{o:Oper}{n:Nat}{ds:dL}{l:List (Nat×Value)}{m:aU}{J:an}
def xL (k:IntKind)(a b:Int):BinOp->Option Value
 |.shr=>some (.int k (a.fdiv (2 ^ b.toNat)))
 |.and=>some (.int k (k.wrap (BitVec.ofInt k.bits a &&& BitVec.ofInt k.bits b).toNat))
 |_=>none
theorem xa{op:BinOp}{t dq:TypeId}{x y:Operand}{k:IntKind}{a b:Int}{v:Value}(ae:o.op=.binOp op t x y dq)(j:bB l x=some (.int k a))(aC:bB l y=some (.int k b))(aD:xL k a b op=some v)(af:0<=b)(jn:b<=k.bits):ch K B o n ds l m J v:=by
 intro call az S H al au;unfold cc eh;simp only[ae];show ja K.P _ op t (aR S.T H x) (aR S.T H y)=_;rw[cX al H j,cX al H aC];show(bif kr k k then h1 H k a b _ op else _)=_;rw[wD,bH];have key:∀(q6:BinOp),op=q6->(q6=.shr\/q6=.and)->ek K.P S.T H o=some (.val v H):=by
  intro q6 e h;subst e;refine lk al (by rw[ae];rfl) j aC rfl rfl ?_ ?_
  ·unfold execOp;simp only[ae];rw[gx al H j,gx al H aC];rcases h with rfl|rfl
   ·simp only[xL,bL] at aD;subst aD;have ar:en K.P (eqGuard .shr t x y (.int k a) (.int k b))=some ():=rfl;have j5:binOp .shr t (.int k a) (.int k b)=pure (.int k (a.fdiv (2 ^ b.toNat))):=by
     simp[binOp,Op.shift,show ¬b<0 by omega,h5 (show b.toNat<=k.bits by omega)]
    rw[eW (a:=.int k (a.fdiv (2 ^ b.toNat)))]
    ·rfl
    rw[eW ar,j5];rfl
   ·simp only[xL,bL] at aD;subst aD;have ar:en K.P (eqGuard .and t x y (.int k a) (.int k b))=some ():=rfl;have j5:binOp .and t (.int k a) (.int k b)=pure (.int k (k.wrap (BitVec.ofInt k.bits a &&& BitVec.ofInt k.bits b).toNat)):=by simp[binOp,Op.intBits]
    rw[eW (a:=.int k (k.wrap (BitVec.ofInt k.bits a &&& BitVec.ofInt k.bits b).toNat))]
    ·rfl
    rw[eW ar,j5];rfl
  ·rcases h with rfl|rfl<;>simp only[xL,bL] at aD<;>subst aD<;>rfl
 cases op<;>simp only[xL,reduceCtorEq] at aD
 ·show _=_;exact(show h1 H k a b _ .and=_ from key .and rfl (.inr rfl))
 ·exact(show h1 H k a b _ .shr=_ from key .shr rfl (.inl rfl))
end
theorem Nb{a:Nat}{q:Nat}:(a:Int).fdiv (2 ^ q)=((a / 2 ^ q:Nat):Int):=by
 rw[Int.fdiv_eq_ediv_of_nonneg _ (by exact Ao (Int.pow_pos (by omega)))];simp
section
variable {K:di}{B:c6}{n:Nat}{ds:dL}{l:List (Nat×Value)}{m m':aU}{J:an}{cC:Exit->bK->aU->an->Prop}{f:FuncId}{args:List Value}
theorem BZ{α:Type}{m:List α}:∃aa,(m++aa).Perm m:=⟨[],by rw[kW]⟩
theorem ad.I7{α:Type}{c:Code}(k:Nat)(nE:α->List (Nat×Value))(mem:α->aU)(dv:α->an)(inv:α->Prop)(U:ad K B c ⟨n,ds,l⟩ m J fun e cy m' ai=>match e with
 |.normal=>∃s l',inv s/\cy=⟨n,ds,l'⟩/\lp l' (nE s++l.drop k)/\(∃aa,(mem s++aa).Perm m')/\ai=dv s
 |e=>cC e cy m' ai)(ab:∀s,inv s->cC .normal ⟨n,ds,nE s++l.drop k⟩ (mem s) (dv s)):ad K B c ⟨n,ds,l⟩ m J cC:=by
 intro S H al au;obtain⟨e,aB,H',cy,cM,ai,a8,a5,bI,cL⟩:=U S H al au;cases e with
 |normal=>
  obtain⟨s,l',pG,rfl,gy,⟨aa,kq⟩,rfl⟩:=cL;exact⟨_,aB,H',_,_,_,a8,a5.sub gy,(bI.perm kq.symm).sub (vd _ _),ab s pG⟩
 |exit i=>exact⟨_,aB,H',_,_,_,a8,a5,bI,cL⟩
 |goto i=>exact⟨_,aB,H',_,_,_,a8,a5,bI,cL⟩
 |ret=>exact⟨_,aB,H',_,_,_,a8,a5,bI,cL⟩
 |panic c=>exact⟨_,aB,H',_,_,_,a8,a5,bI,cL⟩
 |outgrown=>exact⟨_,aB,H',_,_,_,a8,a5,bI,cL⟩
end
structure oW where
 f:FuncId
 ca:List Value
 ck:aU
 J:an
 er:Value->aU->an->Prop
 new:Bool
def oW.OF(x:oW)(K:di)(f:FuncId)(ca:List Value)(H:ah)(r:Ending×ah):Prop:=
 x.f=f/\x.ca=ca/\Inv K.g0 (iZ x.ck H x.J) x.J x.ck H/\∃v H' ai m',r=(Ending.returned v,H')/\iA K.Q f ca H (.returned v) H'/\Inv K.g0 (iZ x.ck H x.J) ai m' H'/\x.er v m' ai
def bh(K:di)(B:c6)(ops:List Oper)(a6:List g9)(F:List oW)(E:bK)(m:aU)(J:an)(bt:bK->aU->an->Prop):Prop:=
 ∀(T:dI) (S:aO) (H:ah),(∀f ca H1 r,T f ca H1=some r->∃x∈F,x.OF K f ca H1 r/\(x.new=true->H1.av<H.av))->Sat E S->Inv K.g0 B J m H->∃bx:dI,(∀f ca H r cA,T f ca H=some r->bx f ca H=some cA->cA=r)/\∃aB H' cy m' ai,
  (∀fq:dI,(∀f args H r,bx f args H=some r->fq f args H=some r)->dt K.P (hs K.Q fq) (gl K.Q hB fq).az ops a6 S H=some (.ok aB H'))/\Sat cy aB/\Inv K.g0 B ai m' H'/\bt cy m' ai
section
variable {K:di}{B:c6}{ops:List Oper}{a6:List g9}{F:List oW}{HG:List (FuncId×List Value)}{E:bK}{m m':aU}{J:an}{o:Oper}{bt:bK->aU->an->Prop}
variable {n:Nat}{ds:dL}{l:List (Nat×Value)}{d i:Nat}
theorem bR.jP(h:bh K B ops a6 [] E m J bt):bR K B ops a6 [] E m J bt:=by
 intro S H al au;obtain⟨bx,_,ab⟩:=h (fun _ _ _=>none) S H (fun _ _ _ _ q=>by cases q) al au;exact⟨bx,(fun _ _ _ _ _ q=>by cases q),ab⟩
theorem bh.jO(cg:∀x∈F,(x.f,x.ca)∈HG)(h:bR K B ops a6 HG E m J bt):bh K B ops a6 F E m J bt:=by
 intro T S H cw al au;obtain⟨bx,U,ab⟩:=h S H al au;refine⟨bx,fun f ca H1 r cA aQ aP=>?_,ab⟩;obtain⟨x,j,⟨aA,aW,_⟩,_⟩:=cw f ca H1 r aQ;exact absurd (by rw[<-aA,<-aW];exact cg x j) (U f ca H1 cA aP)
theorem bh.val{v:Value}(aq:nth ops i=some o)(ar:o.guard=none)(ax:o.dst=some d)(aE:Nat.blt d n=true)(aD:ch K B o n ds l m J v)(h:bh K B ops a6 F ⟨n,ds,(d,v)::l⟩ m J bt):bh K B ops (.val i::a6) F ⟨n,ds,l⟩ m J bt:=by
 intro T S H cw al au;obtain⟨aY,s1,s2⟩:=al.put (dst:=some d) aE v;obtain⟨bx,dG,aB,H',cy,m',ai,U,ab,aV,br⟩:=h T aY H cw s2 au;refine⟨bx,dG,aB,H',cy,m',ai,fun fq q=>?_,ab,aV,br⟩;show iv ops i (kA K.P _ _ ops S H (dt K.P _ _ ops a6))=_;unfold iv;rw[aq];show kA K.P _ _ ops S H (dt K.P _ _ ops a6) o=_;unfold kA eI;rw[ar];show xd S H o.dst (dt K.P _ _ ops a6) (cc K.P _ _ S H o)=_;rw[aD _ _ S H al au,ax];show(bif Nat.beq H.av H.av then l7 (dt K.P _ _ ops a6) H (S.put (some d) v) else none)=_;rw[ga,bH,s1];exact U fq q
theorem bh.cq{is:List Nat}(aF:p6 K B ops n ds l m J is)(h:bh K B ops a6 F ⟨n,ds,l⟩ m J bt):bh K B ops (.cq is::a6) F ⟨n,ds,l⟩ m J bt:=by
 intro T S H cw al au;obtain⟨bx,dG,aB,H',cy,m',ai,U,ab,aV,br⟩:=h T S H cw al au;refine⟨bx,dG,aB,H',cy,m',ai,fun fq q=>?_,ab,aV,br⟩;show xX K.P _ _ ops S H (dt K.P _ _ ops a6) is=_;unfold xX;rw[p6.all al au aF,bH];exact U fq q
end
section
variable {K:di}{B:c6}{R:o6}{ops:List Oper}{a6:List g9}{m:aU}{J:an}{o:Oper}{bt:bK->aU->an->Prop}
variable {n:Nat}{ds:dL}{l:List (Nat×Value)}{d i g:Nat}{want b:Bool}
end
section
variable {K:di}{B:c6}{o:Oper}{n:Nat}{ds:dL}{l:List (Nat×Value)}{m:aU}{J:an}{dS:bK->aU->an->Prop}{d:Nat}
theorem NK{t e:TypeId}{x:Operand}{aq:Operand}{hp off k cap sz:Nat}{fc:List Value}{b:Int}{pH:IntKind}(ae:o.op=.slice t x none (some aq) none)(j:bB l x=some (.slice (some ⟨hp,off,none⟩) k cap))(aG:jd K.P t=some (e,sz,fc))(iX:bB l aq=some (.int pH b))(a2:0<=b)(U:b<=cap)(aF:cap<cf)(j6:0<cap):ch K B o n ds l m J (.slice (some ⟨hp,off,none⟩) b.toNat cap):=by
 obtain⟨hu,de,_⟩:=ri aG;intro call az S H al au;obtain⟨zE,oI,oJ⟩:=tm (hx:=k) (top:=cap) (dl:=(k:Int)) (i:=b) (x:=some aq) al H (by unfold rR;simp only[iX]) a2 U rfl;unfold cc eh;simp only[ae];show kv K.P _ t (aR S.T H x) (gA S.T H none) (gA S.T H (some aq))=_;rw[cX al H j,oI,show gA S.T H none=some none from rfl];unfold kv;simp only
 have:iI K.P H t (.slice (some ⟨hp,off,none⟩) k cap) none zE=some (.slice (some ⟨hp,off,none⟩) b.toNat cap):=by
  unfold iI;simp only[hu,de];rw[show Nat.beq cap cf=false from by
   cases af:Nat.beq cap cf with
   |false=>rfl
   |true=>have:=dB af;omega,cZ,oJ]
  simp only[ik];rw[show Nat.beq cap 0=false from by
   cases af:Nat.beq cap 0 with
   |false=>rfl
   |true=>have:=dB af;omega,cZ]
  simp
 rw[this];rfl
end
section
variable {K:di}{B:c6}{R:o6}{ops:List Oper}{a6:List g9}{m:aU}{J:an}{o:Oper}{bt:bK->aU->an->Prop}
variable {n:Nat}{ds:dL}{l:List (Nat×Value)}{d i g:Nat}{want b:Bool}
end
section
variable {K:di}{B:c6}{o:Oper}{n:Nat}{ds:dL}{l:List (Nat×Value)}{m m':aU}{J:an}{dS:bK->aU->an->Prop}
end
end
end Go.Opn

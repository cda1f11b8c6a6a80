/- A part of the proof of TableClose. -/
import Derived.Test.YtpahonhejmlnpaaGreatDoorCaz
set_option linter.unusedVariables false
set_option linter.unusedSimpArgs false
namespace Go.Opn
noncomputable section
open Go.Cre Go.RowKit
open Classical
def pN (f:FuncId)(args:List Value)(bf:FrameMode)(H:ai)(r:Ending×FrameMode×ai):FuncId->List Value->Bool->FrameMode->ai->Option (Ending×FrameMode×ai):=fun cz b5 bB fx H'=>if cz=f/\b5=args/\bB=true/\fx=bf/\H'=H then some r else none
def wW{P:Program}(Q:ek P)(f:FuncId)(args:List Value)(bf:FrameMode)(H:ai)(e:Ending)(fx:FrameMode)(H':ai):Prop:=∀B w0,Q.ok B w0->qN P B w0 (pN f args bf H (e,fx,H'))
def nN {P:Program}(Q:ek P)(eX:Code->aT->ai->Option (Exit×aT×ai))(rW:FuncId->List Value->Bool->FrameMode->ai->Option (Ending×FrameMode×ai)):eT:=
 ⟨n1 Q eX,fun f args bB bf H=>if bB=true then(match rW f args bB bf H with
  |some (e,gY,H')=>if wW Q f args bf H e gY H' then some (e,gY,H') else none
  |none=>none) else none⟩
section
variable {P:Program}{Q:ek P}{B:Nat->Prop}{w0:World}
theorem KK(eX:Code->aT->ai->Option (Exit×aT×ai))(rW:FuncId->List Value->Bool->FrameMode->ai->Option (Ending×FrameMode×ai))(fv:Q.ok B w0):qN P B w0 (nN Q eX rW).body:=by
 intro f args bf H e fx H' he;unfold nN at he;simp only[DW] at he;split at he
 ·split at he
  ·rename_i eC;simp only[b9,c'] at he;obtain⟨rfl,rfl,rfl⟩:=he;exact eC B w0 fv f args bf H _ _ _ (by unfold pN;rw[bg ⟨rfl,rfl,rfl,rfl,rfl⟩])
  ·cases he
 ·cases he
theorem Si(eX:Code->aT->ai->Option (Exit×aT×ai)){f:FuncId}{args:List Value}{bf fx:FrameMode}{H H':ai}{e:Ending}(h:wW Q f args bf H e fx H'):(nN Q eX (pN f args bf H (e,fx,H'))).body f args true bf H=some (e,fx,H'):=by
 unfold nN;simp only[DW];have:pN f args bf H (e,fx,H') f args true bf H=some (e,fx,H'):=by unfold pN;rw[bg ⟨rfl,rfl,rfl,rfl,rfl⟩]
 rw[this];simp only;rw[bg h]
def yy:FuncId->List Value->Bool->FrameMode->ai->Option (Ending×FrameMode×ai):=fun _ _ _ _ _=>none
theorem jn.EE{eK:aQ Func}(eB:pK P eK){f:FuncId}{fn:Func}{c:Code}{args:List Value}{T:aQ Value}{H H1 H':ai}{a1:aT}{x:Exit}{e:Ending}{bf:FrameMode}(rW:FuncId->List Value->Bool->FrameMode->ai->Option (Ending×FrameMode×ai))(az:eK.get f=some fn)(ah:fn.body=some c)(aK:lA args 0 (Go.Cre.blank fn.ntmps)=some T)
 (aL:dc Q c ⟨T,fn.ntmps,[],false,.run,none⟩ H x a1 H1)(he:so P (nN Q (jB c ⟨T,fn.ntmps,[],false,.run,none⟩ H (x,a1,H1)) rW) fn (some (x,a1,H1))=some (e,bf,H')):jn Q f args H e H':=by
 intro B w0 fv f1 q4 nf aC Cb p3;unfold mC at p3;split at p3
 ·rename_i q;obtain⟨rfl,rfl,rfl⟩:=q;simp only[b9,c'] at p3;obtain⟨rfl,rfl⟩:=p3;refine Gu (E:=nN Q (jB c ⟨T,fn.ntmps,[],false,.run,none⟩ nf (x,a1,H1)) rW) eB (xe _ fv) (KK _ rW fv) f1 q4 nf _ _ ?_;unfold eT.call;simp only
  have:oZ P eK (nN Q (jB c ⟨T,fn.ntmps,[],false,.run,none⟩ nf (x,a1,H1)) rW) f1 q4 false .run nf=some (e,bf,H'):=by
   unfold oZ;rw[az];show zu P _ f1 fn q4 false .run nf fn.body=_;rw[ah];show zv P _ fn c false .run nf (lA q4 0 (Go.Cre.blank fn.ntmps))=_;rw[aK];show so P _ fn (n1 Q _ c ⟨T,fn.ntmps,[],false,.run,none⟩ nf)=_;rw[xd aL];exact he
  rw[this]
 ·cases p3
theorem wW.run{eK:aQ Func}(eB:pK P eK){f:FuncId}{fn:Func}{c:Code}{args:List Value}{T:aQ Value}{H H1 H':ai}{a1:aT}{x:Exit}{e:Ending}{u bf:FrameMode}(az:eK.get f=some fn)(ah:fn.body=some c)(aK:lA args 0 (Go.Cre.blank fn.ntmps)=some T)
 (aL:dc Q c ⟨T,fn.ntmps,[],true,u,none⟩ H x a1 H1)(he:so P (nN Q (jB c ⟨T,fn.ntmps,[],true,u,none⟩ H (x,a1,H1)) yy) fn (some (x,a1,H1))=some (e,bf,H')):wW Q f args u H e bf H':=by
 intro B w0 fv f1 q4 jl nf aC J9 Cb p3;unfold pN at p3;split at p3
 ·rename_i q;obtain⟨rfl,rfl,_,rfl,rfl⟩:=q;simp only[b9,c'] at p3;obtain⟨rfl,rfl,rfl⟩:=p3;refine MN (E:=nN Q (jB c ⟨T,fn.ntmps,[],true,jl,none⟩ nf (x,a1,H1)) yy) eB (xe _ fv) (KK _ yy fv) f1 q4 jl nf _ _ _ ?_;unfold oZ;rw[az];show zu P _ f1 fn q4 true jl nf fn.body=_;rw[ah];show zv P _ fn c true jl nf (lA q4 0 (Go.Cre.blank fn.ntmps))=_;rw[aK];show so P _ fn (n1 Q _ c ⟨T,fn.ntmps,[],true,jl,none⟩ nf)=_;rw[xd aL];exact he
 ·cases p3
end
section
variable {K:dG}{B:dt}{f:FuncId}{fn:Func}{c:Code}{args:List Value}{bU:aU}{J:an}
def qO(K:dG)(f:FuncId)(args:List Value)(bU:aU)(J:an)(mv:Value->aU->an->Prop)(oO:List PanicEntry->aU->an->Prop):Prop:=
 ∀H,Inv K.g0 (h7 bU H J) J bU H->∃H' ae m',Inv K.g0 (h7 bU H J) ae m' H'/\((∃v,jn K.Q f args H (.returned v) H'/\mv v m' ae)\/∃cf,jn K.Q f args H (.panicked cf) H'/\oO cf m' ae)
theorem qO.JF{mv:Value->aU->an->Prop}(h:qO K f args bU J mv fun _ _ _=>False):Fn K f args bU J mv:=fun H av=>by
 obtain⟨H',ae,m',aa,ab⟩:=h H av;rcases ab with⟨v,aY,bu⟩|⟨cf,aY,bu⟩
 ·exact⟨v,H',ae,m',aY,aa,bu⟩
 ·exact bu.elim
def oI(K:dG)(f:FuncId)(args:List Value)(bf:FrameMode)(bU:aU)(J:an)(du:FrameMode->aU->an->Prop):Prop:=
 ∀H,Inv K.g0 (h7 bU H J) J bU H->∃v fx H' ae m',wW K.Q f args bf H (.returned v) fx H'/\Inv K.g0 (h7 bU H J) ae m' H'/\du fx m' ae
def MD(bf:FrameMode):dQ:=⟨[],none,true,bf⟩
theorem LV{fn:Func}{args:List Value}{dZ:dQ}(aA:Nat.ble args.length fn.ntmps=true):∃T,lA args 0 (Go.Cre.blank fn.ntmps)=some T/\∀bB bf,dZ=⟨[],none,bB,bf⟩->Sat ⟨fn.ntmps,dZ,q5 args 0⟩ ⟨T,fn.ntmps,[],bB,bf,none⟩:=by
 obtain⟨T,bx,bX,cy⟩:=FR (vs:=args) (i:=0) (n:=fn.ntmps) (F0 fn.ntmps) (by have:=gy aA;omega);refine⟨T,bx,fun bB bf au=>?_⟩;subst au;refine⟨rfl,rfl,rfl,rfl,rfl,bX,fun t v q=>?_⟩;obtain⟨_,aN⟩:=FQ q;show T.get t=some v;have:t<args.length:=by
  rcases hr t args.length with r|r
  ·exact r
  ·rw[qT (by omega)] at aN;cases aN
 rw[cy,bg (by omega)];exact aN
theorem oI.ck{bf:FrameMode}{du:FrameMode->aU->an->Prop}(az:K.eK.get f=some fn)(ah:fn.body=some c)(aA:Nat.ble args.length fn.ntmps=true)
 (h:∀H,ad K (h7 bU H J) c ⟨fn.ntmps,MD bf,q5 args 0⟩ bU J fun e E m ae=>(e=.normal\/e=.ret)/\E.ds.ds=[]/\∃vs m',mw K.P E m ae fn.results.toList vs/\m'.Sublist m/\du E.ds.bf m' ae):oI K f args bf bU J du:=by
 intro H av;obtain⟨T,bx,bX⟩:=LV (dZ:=MD bf) aA;have ak:=bX true bf rfl;obtain⟨e,aB,H',E',cE,ae,a9,a4,bJ,cx,fL,vs,m',iT,l7,nE⟩:=h H _ H ak av;have sI:aB.ds=[]:=a4.ds.trans fL;have al:=iT.vt a4 bJ;refine⟨oz vs,aB.bf,H',ae,m',?_,bJ.sub l7,by rw[a4.bf];exact nE⟩;refine wW.run K.eB az ah bx a9 ?_;rcases cx with rfl|rfl
 ·show nk aB.bf (gl K.P _ fn aB.T aB.ds .returning H')=_;rw[sI];unfold gl;rw[al];rfl
 ·show nk aB.bf (gl K.P _ fn aB.T aB.ds .returning H')=_;rw[sI];unfold gl;rw[al];rfl
def IZ:Exit->Option FrameMode
 |.normal=>some .returning
 |.ret=>some .returning
 |.panic cf=>some (.panicking cf)
 |_=>none
def Ends(K:dG)(fn:Func)(E:b3)(m:aU)(J:an)(u:FrameMode)(mv:Value->aU->an->Prop)(oO:List PanicEntry->aU->an->Prop):Prop:=
 (u=.returning/\∃vs m',mw K.P E m J fn.results.toList vs/\m'.Sublist m/\mv (oz vs) m' J)\/∃cf m',u=.panicking cf/\m'.Sublist m/\oO cf m' J
def Leaves(K:dG)(fn:Func)(e:Exit)(E:b3)(m:aU)(J:an)(mv:Value->aU->an->Prop)(oO:List PanicEntry->aU->an->Prop):Prop:=
 ∃u,IZ e=some u/\((E.ds.ds=[]/\Ends K fn E m J u mv oO)\/
  ∃fd cap rf bU eD,E.ds.ds=[⟨.fn (.func fd) cap,rf⟩]/\(bU++eD).Perm m/\oI K fd (rf.toList++cap.toList) u bU J fun gY m' ae=>J.le ae->Ends K fn E (m'++eD) ae (settle gY) mv oO)
theorem CA{P:Program}{E:eT}{e:Exit}{u:FrameMode}{S:aT}{H:ai}(h:IZ e=some u):so P E fn (some (e,S,H))=nk S.bf (gl P E fn S.T S.ds u H):=by
 cases e<;>first|(injection h with h;subst h;rfl)|cases h
theorem Ends.vt{E:b3}{m:aU}{u:FrameMode}{mv:Value->aU->an->Prop}{oO:List PanicEntry->aU->an->Prop}{S:aT}{H:ai}{V:eT}(h:Ends K fn E m J u mv oO)(ak:Sat E S)(av:Inv K.g0 B J m H):
 ∃m',Inv K.g0 B J m' H/\((∃v,gl K.P V fn S.T [] u H=some (.returned v,H)/\mv v m' J)\/∃cf,gl K.P V fn S.T [] u H=some (.panicked cf,H)/\oO cf m' J):=by
 rcases h with⟨rfl,vs,m',aa,ab,aY⟩|⟨cf,m',rfl,ab,aY⟩
 ·refine⟨m',av.sub ab,.inl ⟨oz vs,?_,aY⟩⟩;unfold gl;rw[aa.vt ak av]
 ·exact⟨m',av.sub ab,.inr ⟨cf,by unfold gl;rfl,aY⟩⟩
theorem aaj{e:Exit}{u:FrameMode}(h:IZ e=some u):A0 u=false:=by
 cases e<;>first|(injection h with h;subst h;rfl)|cases h
theorem qO.ck{mv:Value->aU->an->Prop}{oO:List PanicEntry->aU->an->Prop}(az:K.eK.get f=some fn)(ah:fn.body=some c)(aA:Nat.ble args.length fn.ntmps=true)
 (h:∀H,ad K (h7 bU H J) c ⟨fn.ntmps,xi,q5 args 0⟩ bU J fun e E m ae=>Leaves K fn e E m ae mv oO):qO K f args bU J mv oO:=by
 intro H av;obtain⟨T,bx,bX⟩:=LV (dZ:=xi) aA;have ak:=bX false .run rfl;obtain⟨e,aB,H',E',cE,ae,a9,a4,bJ,u,cx,fL⟩:=h H _ H ak av;have Dd:=a4.ds;rcases fL with⟨fL,iT⟩|⟨fd,cap,rf,ahG,eD,fL,iT,l7⟩
 ·obtain⟨m',aa,ab⟩:=iT.vt (V:=nN K.Q (jB c ⟨T,fn.ntmps,[],false,.run,none⟩ H (e,aB,H')) yy) a4 bJ;refine⟨H',ae,m',aa,?_⟩;rcases ab with⟨v,ab,aY⟩|⟨cf,ab,aY⟩
  ·refine .inl ⟨v,jn.EE K.eB yy az ah bx a9 (bf:=aB.bf) ?_,aY⟩;rw[CA cx,Dd,fL,ab];rfl
  ·refine .inr ⟨cf,jn.EE K.eB yy az ah bx a9 (bf:=aB.bf) ?_,aY⟩;rw[CA cx,Dd,fL,ab];rfl
 ·obtain⟨v,fx,bK,dR,eW,d1,d2,d3⟩:=l7 H' (bJ.enter iT trivial);obtain⟨nE,IF⟩:=bJ.leave iT d2;obtain⟨m',aa,ab⟩:=(d3 IF).vt (V:=nN K.Q (jB c ⟨T,fn.ntmps,[],false,.run,none⟩ H (e,aB,H')) (pN fd (rf.toList++cap.toList) u H' (.returned v,fx,bK))) a4 nE
  have sN:∀r,gl K.P (nN K.Q (jB c ⟨T,fn.ntmps,[],false,.run,none⟩ H (e,aB,H')) (pN fd (rf.toList++cap.toList) u H' (.returned v,fx,bK))) fn aB.T [] (settle fx) bK=some r->
   gl K.P (nN K.Q (jB c ⟨T,fn.ntmps,[],false,.run,none⟩ H (e,aB,H')) (pN fd (rf.toList++cap.toList) u H' (.returned v,fx,bK))) fn aB.T [⟨.fn (.func fd) cap,rf⟩] u H'=some r:=fun r al=>by
   rw[gl];rw[aaj cx,da];simp only
   show(match j9 K.P H' (.func fd) rf.toList cap.toList with|none=>none|some (f,args)=>_)=_
   unfold j9;simp only
   rw[Si _ d1];exact al
  refine⟨bK,dR,m',aa,?_⟩;rcases ab with⟨w,ab,aY⟩|⟨cf,ab,aY⟩
  ·refine .inl ⟨w,jn.EE K.eB (pN fd (rf.toList++cap.toList) u H' (.returned v,fx,bK)) az ah bx a9 (bf:=aB.bf) ?_,aY⟩;rw[CA cx,Dd,fL,sN _ ab];rfl
  ·refine .inr ⟨cf,jn.EE K.eB (pN fd (rf.toList++cap.toList) u H' (.returned v,fx,bK)) az ah bx a9 (bf:=aB.bf) ?_,aY⟩;rw[CA cx,Dd,fL,sN _ ab];rfl
end
section
variable {K:dG}{B:dt}{ops rest:List Oper}{o:Oper}{n:Nat}{ds:dQ}{l:List (Nat×Value)}{d:Nat}{m:aU}{J:an}{bm:Option (List PanicEntry)->b3->aU->an->Prop}
theorem PY{S:aT}{H:ai}{eX:Code->aT->ai->Option (Exit×aT×ai)}{bo:ed}(aq:o.guard=none):one K.P (hZ K.Q bo) (fU K.Q eX bo).aE ops S H o=oy S H o.dst (ct K.P (hZ K.Q bo) (fU K.Q eX bo).aE S H o):=by
 unfold one eZ;rw[aq];rfl
theorem W.defer{c:Call}{x:Operand}{f:FuncId}{first cap:Array Value}{args:List Value}(aq:o.guard=none)(ag:o.op=.defer c)(au:o.dst=none)(aL:c.callee=.value x)(U:bH l x=some (.func (.func f) first cap))(aK:hJ l c.args.toList=some args)(al:ds.b8=none)
 (h:W K B ops rest ⟨n,⟨⟨.fn (.func f) cap,(first.toList++args).toArray⟩::ds.ds,ds.b8,ds.bB,ds.bf⟩,l⟩ m J bm):W K B ops (o::rest) ⟨n,ds,l⟩ m J bm:=by
 intro S H ak av;have xK:Sat ⟨n,⟨⟨.fn (.func f) cap,(first.toList++args).toArray⟩::ds.ds,ds.b8,ds.bB,ds.bf⟩,l⟩ (S.yY ⟨.fn (.func f) cap,(first.toList++args).toArray⟩):=by
  obtain⟨T,wc,en,UL,fx,acN⟩:=S;exact⟨ak.n,(by show _::en=_::ds.ds;rw[show en=ds.ds from ak.ds]),ak.bB,ak.bf,ak.b8,ak.has,ak.get⟩
 obtain⟨p,aB,qQ,E',mR,mq,cX,cM,fo,ix⟩:=h _ H xK av;refine⟨p,aB,qQ,E',mR,mq,.cons hQ ki ?_ cX,cM,fo,ix⟩;rw[PY aq];have kU:S.b8=none:=ak.b8.trans al;have:ct K.P (hZ K.Q ki) (fU K.Q hQ ki).aE S H o=some (.ft ⟨.fn (.func f) cap,(first.toList++args).toArray⟩):=by
  unfold ct eA;simp only[ag];show rV K.P _ c=_;unfold rV;simp only[kU];unfold zU;rw[nq ak H aK];simp only[aL];rw[c1 ak H U];rfl
 rw[this,au];show wj S H none _=_;unfold wj;rw[kU];rfl
def Qx (ds:dQ):Option (Value×FrameMode):=
 match ds.b8 with
 |some _=>none
 |none=>bif ds.bB then(match ds.bf with
  |.panicking ({v,recovered:=false,goexit:=false}::Em)=>some (v,.panicking ({v,recovered:=true}::Em))
  |m=>some (.nilIface,m))
  else some (.nilIface,ds.bf)
theorem W.recover{c:Call}{v:Value}{bf:FrameMode}(aq:o.guard=none)(ag:o.op=.call c)(aL:c.callee=.builtin .recover)(aK:c.args.toList=[])(au:o.dst=some d)(aw:Nat.blt d n=true)(al:Qx ds=some (v,bf))
 (h:W K B ops rest ⟨n,⟨ds.ds,ds.b8,ds.bB,bf⟩,(d,v)::l⟩ m J bm):W K B ops (o::rest) ⟨n,ds,l⟩ m J bm:=by
 intro S H ak av;have ru:Sat ⟨n,⟨ds.ds,ds.b8,ds.bB,bf⟩,l⟩ (S.tp bf):=by
  obtain⟨T,wc,en,UL,fx,acN⟩:=S;exact⟨ak.n,ak.ds,ak.bB,rfl,ak.b8,ak.has,ak.get⟩
 obtain⟨a1,s1,s2⟩:=ru.put (dst:=some d) aw v;obtain⟨p,aB,qQ,E',mR,mq,cX,cM,fo,ix⟩:=h a1 H s2 av;refine⟨p,aB,qQ,E',mR,mq,.cons hQ ki ?_ cX,cM,fo,ix⟩;rw[PY aq];have:ct K.P (hZ K.Q ki) (fU K.Q hQ ki).aE S H o=some .wz:=by
  unfold ct eA;simp only[ag];show jW K.P _ c=_;unfold jW;rw[aL];simp only
  unfold n3;rw[aK];rfl
 rw[this,au];show Bu S H (some d) (oC S)=_;have e:oC S=some (v,bf):=by
  unfold oC;unfold Qx at al;rw[ak.b8,ak.bB,ak.bf];exact al
 rw[e];show km (S.tp bf) (some d) v H=_;show m3 H ((S.tp bf).put (some d) v)=_;rw[s1];rfl
end
section
variable {g0:Nat}{B:dt}{H:ai}{J:an}{m m':aU}
theorem Inv.acH{a z:Nat}{full:List Value}{e:TypeId}{rest:List Nat}(h:Inv g0 B J ((a,.opn full e rest z)::m) H)(cells':List Value):
 ∃f H1 bK fi,H.mem.get a=some (.row full e true f z false)/\H.bl.get f=some (a::rest)/\pi H H.ax (a::rest)=some H1/\H1.oD f [H.ax]=some bK/\H1.ax=H.ax/\bK.ax=H.ax/\bK.new (.row cells' e true f z false)=some (H.ax,fi)/\Inv g0 B J ((H.ax,.opn cells' e [] z)::m) fi:=by
 obtain⟨a9,a4,bJ,cx⟩:=h.own a _ (.head _);obtain⟨f,f1,f2,f3⟩:=a9;have cD:=h.lt (.head _);have dz:=h.fw;rw[show ids ((a,dh.opn full e rest z)::m)=a::(rest++ids m) from rfl,pI,nQ,Cn] at dz;obtain⟨x3,AB,Dy,Hu⟩:=dz;have DJ:∀x∈a::rest,x<H.ax:=fun x U=>by
  rcases gj.1 U with q|q
  ·subst q;exact cD
  ·exact(h.opn a _ (.head _) x q).1
 obtain⟨H1,aC,bh⟩:=O2 (mU:=H.ax) (a::rest) h.wf DJ;obtain⟨v1,v2,BV,v4,aei,v6⟩:=D1 aC;have hg:f<H1.b7:=by rw[BV];exact h.wf.z1 f3
 obtain⟨bK,aZ⟩:=bh.oD [H.ax] hg;obtain⟨s2,s1,h',yM,qE⟩:=ai.yO aZ;have jg:bK.ax=H.ax:=by rw[s2,v1]
 have vV:∀x,x≠a->x∉rest->bK.mem.get x=H.mem.get x:=fun x aR aN=>by
  rw[s1,v6 x (.inl (fun q=>by rcases gj.1 q with q|q;exact aR q;exact aN q))]
 have xT:∀g,g≠f->bK.bl.get g=H.bl.get g:=fun g q=>by rw[qE,a3 q,v2]
 have hm:Inv g0 B J m bK:=by
  refine⟨bh.JO hg aZ,by rw[yM,v4];exact h.bp,by rw[jg];exact h.ax,by rw[h',BV];exact h.b7,fun x U fl=>?_,fun g aq=>?_,fun x c bk a5=>?_,h.le,h.fresh,fun x b ah=>?_,fun x b ah y aF=>by rw[jg];exact h.opn x b (.tail _ ah) y aF,Dy⟩
  ·rw[vV x (fun q=>by subst q;rcases a4 with q|q;·omega
                      ·exact fl q) (fun q=>by rcases(h.opn a _ (.head _) x q).2.1 with r|r;·omega
                                              ·exact fl r)]
   exact h.ff x U fl
  ·rw[xT g (fun q=>aq (by rw[q];exact f1))];exact h.kX g aq
  ·obtain⟨o,cz,kn,s,q⟩:=h.dB x c bk a5
   exact⟨o,cz,kn,s,by rw[vV x (fun r=>by subst r;rw[bJ] at a5;cases a5) (fun r=>by have:=(h.opn a _ (.head _) x r).2.2;rw[this] at a5;cases a5)];exact q⟩
  ·obtain⟨fM,fg,iu,jS⟩:=h.own x b (.tail _ ah)
   have v3:x∈ids m:=uk ah;refine⟨?_,fg,iu,jS⟩;refine dh.sm fM (vV x (fun r=>x3 (.inr (r▸v3))) (fun r=>Hu _ r _ v3 rfl)) fun g r aq=>?_;rw[xT g (fun c3=>by
        subst c3;rw[f3] at aq;injection aq with aq;injection aq with aq
        exact x3 (.inr (aq▸v3)))]
   exact aq
 obtain⟨fi,cJ⟩:=hm.wf.new (.row cells' e true f z false);obtain⟨_,cY,ee,fa,gV,ef⟩:=ai.mb cJ;refine⟨f,H1,bK,fi,f2,f3,aC,aZ,v1,jg,by rw[<-jg];exact cJ,?_⟩;have ab:Inv g0 B J m fi:=by
  refine⟨hm.wf.I5 cJ,gV.trans hm.bp,by have:=hm.ax;omega,by rw[fa];exact hm.b7,fun x U fl=>?_,fun g aq=>by rw[ee];exact hm.kX g aq,fun x c e a5=>?_,hm.le,hm.fresh,fun x b ah=>?_,fun x b ah y aF=>?_,hm.fw⟩
  ·rw[ef,a3 (by have:=hm.ax;omega)];exact hm.ff x U fl
  ·obtain⟨o,f,z,s,q⟩:=hm.dB x c e a5
   exact⟨o,f,z,s,by rw[ef,a3 (by have:=hm.wf.lt q;omega)];exact q⟩
  ·obtain⟨fM,fg,iu,jS⟩:=hm.own x b ah
   exact⟨dh.sm fM (by rw[ef,a3 (by have:=hm.lt ah;omega)]) (fun f l az=>by rw[ee];exact az),fg,iu,jS⟩
  ·obtain⟨fM,fg,iu⟩:=hm.opn x b ah y aF
   exact⟨by omega,fg,iu⟩
 refine⟨ab.wf,ab.bp,ab.ax,ab.b7,ab.ff,ab.kX,ab.dB,ab.le,ab.fresh,fun x b ah=>?_,fun x b ah y aF=>?_,?_⟩
 ·rcases gj.1 ah with q|q
  ·injection q with aR aN;subst aR;subst aN
   exact⟨⟨f,f1,by rw[ef,jg,bg rfl],by rw[ee,qE,bg rfl]⟩,.inl h.ax,h.I6,h.GR⟩
  ·exact ab.own x b q
 ·rcases gj.1 ah with q|q
  ·injection q with aR aN;subst aR;subst aN;cases aF
  ·exact ab.opn x b q y aF
 ·show(H.ax::([]++ids m)).Nodup
  rw[sb,pI];refine⟨fun q=>?_,Dy⟩;have:=hm.D7 q;omega
end
structure KB (e:TypeId) (sz:Nat) (v:Value) (k:Nat) (cells:List Value) (ba:aU) (a:Nat) (full:List Value) (rest:List Nat) (z:Nat):Prop where
 v:v=.slice (some ⟨a,0,none⟩) k cu
 ba:ba=[(a,.opn full e rest z)]
 lt:k*sz<full.length
 cut:full.take (k*sz)=cells
 z:z<=k*sz
section
variable {K:dG}{B:dt}{o:Oper}{n:Nat}{ds:dQ}{l:List (Nat×Value)}{m m':aU}{J:an}{eg:b3->aU->an->Prop}{d:Nat}
theorem ae7{c:Call}{t gu e:TypeId}{sz k j a z:Nat}{fz cells new full:List Value}{rest:List Nat}{v x:Value}{ba dV:aU}{dZ:TypeDesc}(ag:o.op=.call c)(aL:c.callee=.builtin .append)(au:o.dst=some d)(aw:Nat.blt d n=true)(aK:hJ l c.args.toList=some [v,x])(pc:c.argTypes.toList=[t,gu])(aM:iY K.P t=some (e,sz,fz))(iS:K.P.underlying gu=some dZ)(rE:∀i,dZ≠.int i)
 (ay:KB e sz v k cells ba a full rest z)(hm:m.Perm (ba++dV))(U:ko K.g0 B J m sz x j new)(dI:new.length=j*sz)(dP:new.all ev=true)(a5:0<j)(aA:k+j<=1000000)
 (h:∀w hP,Acc e sz w (k+j) (cells++new) hP->(z=0->kn hP)->s6 hP->eg ⟨n,ds,(d,w)::l⟩ (hP++dV) J):hU K B o ⟨n,ds,l⟩ m J eg:=by
 obtain⟨rfl,rfl,cD,xP,fe⟩:=ay;obtain⟨hu,dA,gq,wU,gJ,a0,br,rfl,bN,cW,dj⟩:=r0 aM;refine hU.wO au aw fun S H ak av=>?_;obtain⟨fy,fF⟩:=U H av;have av:=av.perm hm;have gd:∀call aE,ct K.P call aE S H o=k1 (nr K.P H t (.slice (some ⟨a,0,none⟩) k cu) x):=fun call aE=>by
  rw[xm ag aL];unfold n3;rw[nq ak H aK,pc];simp only[iS]
 have iQ:(!(Nat.ble (k+j) 1000000&&Nat.ble gq 1000000&&Nat.beq wU.cells.toList.length sz))=false:=by
  rw[br,bN,gH,show Nat.ble (k+j) 1000000=true from j3 aA];rfl
 have o7:(!(new.all ev&&Nat.beq new.length (j*sz)))=false:=by
  rw[dP,dI,gH];rfl
 have kc:cells.length=k*sz:=by rw[<-xP,gp];omega
 obtain⟨f,H1,bK,fi,cm,cn,cR,fk,e9,fY,fJ,nt⟩:=Inv.acH (m:=dV) av (cells++new);have mK:Nat.blt a H.bp=false:=by
  cases q:Nat.blt a H.bp
  ·rfl
  ·have:a<H.bp:=by simpa[Nat.blt,qY] using q
   have:=(av.own _ _ (.head _)).2.2.2;have:=av.bp;omega
 have uj:Nat.ble z (0+k*sz)=true:=j3 (by omega);refine⟨.slice (some ⟨H.ax,0,none⟩) (k+j) cu,fi,(H.ax,.opn (cells++new) e [] z)::dV,J,fun call aE=>?_,nt,?_⟩
 ·rw[gd];have HF:Nat.beq j 0=false:=by
   cases q:Nat.beq j 0
   ·rfl
   ·exact absurd (dX q) (by omega)
  have hle:Nat.beq full.length (k*sz)=false:=by
   cases q:Nat.beq full.length (k*sz)
   ·rfl
   ·exact absurd (dX q) (by omega)
  have Im:takeN (k*sz) full=some cells:=by rw[uJ (by omega),xP]
  unfold nr;simp only[hu,dA,gJ,a0,fy,iQ,da,fF,o7,gH,b1,cm,mK,KG,tq,uj,lT,HF,Im,cn,tK,hle,zL,cR,e9,fk,fY,fJ];rfl
 ·exact h (.slice (some ⟨H.ax,0,none⟩) (k+j) cu) [(H.ax,.opn (cells++new) e [] z)] (.opn (by rw[g1,kc,dI,iC]) (by rw[g1];omega)) (fun q bE bw bk r gi hm=>by rcases gj.1 hm with r|r;(cases r;exact q);cases r) (fun bE bw bk hm=>by rcases gj.1 hm with r|r;cases r;cases r)
theorem Kb{t e:TypeId}{x:Operand}{ar:Operand}{sz a len z:Nat}{fz full:List Value}{rest:List Nat}{b:Int}{rP:IntKind}(ag:o.op=.slice t x none (some ar) none)(U:bH l x=some (.slice (some ⟨a,0,none⟩) len cu))(kd:bH l ar=some (.int rP b))(aM:iY K.P t=some (e,sz,fz))(hm:(a,dh.opn full e rest z)∈m)(aX:0<=b)(aa:b<=len):
 cC K B o n ds l m J (.slice (some ⟨a,0,none⟩) b.toNat cu):=by
 obtain⟨hu,dA,gq,wU,gJ,a0,br,rfl,bN,cW,dj⟩:=r0 aM;intro call aE S H ak av;obtain⟨f,_,kV,_⟩:=(av.own _ _ hm).1;unfold ct eA;simp only[ag];show lN K.P _ t (aW S.T H x) (some none) (g4 S.T H (some ar))=_;rw[c1 ak H U];show lN K.P _ t _ (some none) (match aW S.T H ar with|some v=>some (some v)|none=>none)=_
 rw[c1 ak H kd];have Xp:nC b len=some b.toNat:=by
  obtain⟨c,rfl⟩:∃c:Nat,b=(c:Int):=⟨b.toNat,by omega⟩;show(bif Nat.ble c len then some c else none)=_;rw[show Nat.ble c len=true from j3 (by omega)];rfl
 have:jN K.P H t (.slice (some ⟨a,0,none⟩) len cu) none (some (.int rP b))=some (.slice (some ⟨a,0,none⟩) b.toNat cu):=by
  unfold jN;simp only[hu,dA,gH,b1,kV,lT,da,jy,Xp,nV,nT];rfl
 show orElse (fT (jN K.P H t (.slice (some ⟨a,0,none⟩) len cu) none (some (.int rP b))) H) _=_;rw[this];rfl
end
def fh(e:TypeId)(sz:Nat)(v:Value)(k:Nat)(cells:List Value)(ba:aU):Prop:=(Acc e sz v k cells ba/\kn ba/\s6 ba)\/∃a full rest,KB e sz v k cells ba a full rest 0
theorem fh.form{e:TypeId}{sz k:Nat}{v:Value}{cells:List Value}{ba:aU}(h:fh e sz v k cells ba):(∃b,v=.slice b 0 0/\k=0/\cells=[]/\ba=[])\/∃a full rest,v=.slice (some ⟨a,0,none⟩) k cu/\ba=[(a,.opn full e rest 0)]/\full.take (k*sz)=cells/\k*sz<=full.length:=by
 rcases h with⟨h,a0,aw⟩|⟨a,full,rest,aa,ab,aY,bu,gI⟩
 ·cases h with
  |nil=>exact .inl ⟨_,rfl,rfl,rfl,rfl⟩
  |ik a=>exact .inl ⟨_,rfl,rfl,rfl,rfl⟩
  |opn aa ab=>
   have:=a0 _ _ _ _ _ (.head _);subst this;exact .inr ⟨_,_,_,rfl,rfl,by rw[<-aa,zi],by omega⟩
  |cap=>exact absurd (.head _) (aw _ _ _)
 ·exact .inr ⟨a,full,rest,aa,ab,bu,by omega⟩
theorem fh.of{e:TypeId}{sz k a:Nat}{full:List Value}{rest:List Nat}(hk:k*sz<=full.length):fh e sz (.slice (some ⟨a,0,none⟩) k cu) k (full.take (k*sz)) [(a,.opn full e rest 0)]:=by
 by_cases q:k*sz=full.length
 ·refine .inl ⟨?_,fun bE c bk r z hm=>?_,fun bE c bk hm=>?_⟩
  ·have:=Acc.opn (a:=a) (e:=e) (rest:=rest) (z:=0) q.symm (fB _);rw[q,zi];exact this
  ·rcases gj.1 hm with q|q
   ·cases q;rfl
   ·cases q
  ·rcases gj.1 hm with q|q
   ·cases q
   ·cases q
 ·exact .inr ⟨a,full,rest,rfl,rfl,by omega,rfl,fB _⟩
theorem fh.cut{e:TypeId}{sz k jE:Nat}{v:Value}{cells:List Value}{ba:aU}(h:fh e sz v k cells ba)(hk:jE<=k)(aX:0<k):∃a full rest,v=.slice (some ⟨a,0,none⟩) k cu/\ba=[(a,.opn full e rest 0)]/\fh e sz (.slice (some ⟨a,0,none⟩) jE cu) jE (cells.take (jE*sz)) ba:=by
 rcases h.form with⟨b,_,q,_⟩|⟨a,full,rest,rfl,rfl,rfl,bu⟩
 ·omega
 ·have:jE*sz<=k*sz:=lY _ hk;refine⟨a,full,rest,rfl,rfl,?_⟩;rw[tw,g9 this];exact fh.of (by omega)
theorem fh.row{e:TypeId}{sz k:Nat}{v:Value}{cells:List Value}{ba:aU}(h:fh e sz v k cells ba)(aX:0<k):∃a full rest,v=.slice (some ⟨a,0,none⟩) k cu/\ba=[(a,.opn full e rest 0)]/\full.take (k*sz)=cells/\k*sz<=full.length:=by
 rcases h.form with⟨b,_,q,_⟩|q
 ·omega
 ·exact q
theorem I9{full cells:List Value}{n i:Nat}(h:full.take n=cells)(ar:i<n):nth full i=nth cells i:=by
 rw[jU,jU,<-h,Fj ar]
section
variable {K:dG}{B:dt}{o:Oper}{n:Nat}{ds:dQ}{l:List (Nat×Value)}{m m':aU}{J:an}{eg:b3->aU->an->Prop}{d:Nat}
theorem R2{c:Call}{t gu e:TypeId}{sz k j:Nat}{fz cells new:List Value}{v x:Value}{ba dV:aU}{dZ:TypeDesc}(ag:o.op=.call c)(aL:c.callee=.builtin .append)(au:o.dst=some d)(aw:Nat.blt d n=true)(aK:hJ l c.args.toList=some [v,x])(pc:c.argTypes.toList=[t,gu])(aM:iY K.P t=some (e,sz,fz))(iS:K.P.underlying gu=some dZ)(rE:∀i,dZ≠.int i)
 (ay:fh e sz v k cells ba)(hm:m.Perm (ba++dV))(U:ko K.g0 B J m sz x j new)(dI:new.length=j*sz)(dP:new.all ev=true)(a5:0<j)(aA:k+j<=1000000)
 (h:∀w hP,fh e sz w (k+j) (cells++new) hP->eg ⟨n,ds,(d,w)::l⟩ (hP++dV) J):hU K B o ⟨n,ds,l⟩ m J eg:=by
 rcases ay with⟨ay,aa,ab⟩|⟨a,full,rest,ay⟩
 ·exact nL ag aL au aw aK pc aM iS rE ay hm U dI dP aA fun w hP q r=>h w hP (.inl ⟨q,r.1 aa,r.2 ab⟩)
 ·exact ae7 ag aL au aw aK pc aM iS rE ay hm U dI dP a5 aA fun w hP q cX cM=>h w hP (.inl ⟨q,cX rfl,cM⟩)
end
section
variable {K:dG}{B:dt}{o:Oper}{n:Nat}{ds:dQ}{l:List (Nat×Value)}{m:aU}{J:an}
def zt (k:IntKind)(a b:Int):BinOp->Option Value
 |.shr=>some (.int k (a.fdiv (2 ^ b.toNat)))
 |.and=>some (.int k (k.wrap (BitVec.ofInt k.bits a &&& BitVec.ofInt k.bits b).toNat))
 |_=>none
theorem yT{op:BinOp}{t dK:TypeId}{x y:Operand}{k:IntKind}{a b:Int}{v:Value}(ag:o.op=.binOp op t x y dK)(U:bH l x=some (.int k a))(aF:bH l y=some (.int k b))(ay:zt k a b op=some v)(ah:0<=b)(kw:b<=k.bits):cC K B o n ds l m J v:=by
 intro call aE S H ak av;unfold ct eA;simp only[ag];show jV K.P _ op t (aW S.T H x) (aW S.T H y)=_;rw[c1 ak H U,c1 ak H aF];show(bif jR k k then ir H k a b _ op else _)=_;rw[yq,b1];have key:∀(ta:BinOp),op=ta->(ta=.shr\/ta=.and)->eI K.P S.T H o=some (.val v H):=by
  intro ta e h;subst e;refine mc ak (by rw[ag];rfl) U aF rfl rfl ?_ ?_
  ·unfold execOp;simp only[ag];rw[gS ak H U,gS ak H aF];rcases h with rfl|rfl
   ·simp only[zt,b9] at ay;subst ay;have aq:eJ K.P (eqGuard .shr t x y (.int k a) (.int k b))=some ():=rfl;have kx:binOp .shr t (.int k a) (.int k b)=pure (.int k (a.fdiv (2 ^ b.toNat))):=by
     simp[binOp,Op.shift,show ¬b<0 by omega,g9 (show b.toNat<=k.bits by omega)]
    rw[fj (a:=.int k (a.fdiv (2 ^ b.toNat)))]
    ·rfl
    rw[fj aq,kx];rfl
   ·simp only[zt,b9] at ay;subst ay;have aq:eJ K.P (eqGuard .and t x y (.int k a) (.int k b))=some ():=rfl;have kx:binOp .and t (.int k a) (.int k b)=pure (.int k (k.wrap (BitVec.ofInt k.bits a &&& BitVec.ofInt k.bits b).toNat)):=by simp[binOp,Op.intBits]
    rw[fj (a:=.int k (k.wrap (BitVec.ofInt k.bits a &&& BitVec.ofInt k.bits b).toNat))]
    ·rfl
    rw[fj aq,kx];rfl
  ·rcases h with rfl|rfl<;>simp only[zt,b9] at ay<;>subst ay<;>rfl
 cases op<;>simp only[zt,reduceCtorEq] at ay
 ·show _=_;exact(show ir H k a b _ .and=_ from key .and rfl (.inr rfl))
 ·exact(show ir H k a b _ .shr=_ from key .shr rfl (.inl rfl))
end
theorem QZ{a:Nat}{q:Nat}:(a:Int).fdiv (2 ^ q)=((a / 2 ^ q:Nat):Int):=by
 rw[Int.fdiv_eq_ediv_of_nonneg _ (by exact Ce (Int.pow_pos (by omega)))];simp
section
variable {K:dG}{B:dt}{n:Nat}{ds:dQ}{l:List (Nat×Value)}{m m':aU}{J:an}{cB:Exit->b3->aU->an->Prop}{f:FuncId}{args:List Value}
theorem DZ{α:Type}{m:List α}:∃j,(m++j).Perm m:=⟨[],by rw[jr]⟩
theorem ad.Ms{α:Type}{c:Code}(k:Nat)(pn:α->List (Nat×Value))(mem:α->aU)(dB:α->an)(inv:α->Prop)(aa:ad K B c ⟨n,ds,l⟩ m J fun e E' m' ae=>match e with
 |.normal=>∃s l',inv s/\E'=⟨n,ds,l'⟩/\mg l' (pn s++l.drop k)/\(∃j,(mem s++j).Perm m')/\ae=dB s
 |e=>cB e E' m' ae)(ab:∀s,inv s->cB .normal ⟨n,ds,pn s++l.drop k⟩ (mem s) (dB s)):ad K B c ⟨n,ds,l⟩ m J cB:=by
 intro S H ak av;obtain⟨e,aB,H',E',cE,ae,a9,a4,bJ,cx⟩:=aa S H ak av;cases e with
 |normal=>
  obtain⟨s,l',lk,rfl,fL,⟨j,iT⟩,rfl⟩:=cx;exact⟨_,aB,H',_,_,_,a9,a4.sub fL,(bJ.perm iT.symm).sub (nR _ _),ab s lk⟩
 |exit i=>exact⟨_,aB,H',_,_,_,a9,a4,bJ,cx⟩
 |goto i=>exact⟨_,aB,H',_,_,_,a9,a4,bJ,cx⟩
 |ret=>exact⟨_,aB,H',_,_,_,a9,a4,bJ,cx⟩
 |panic c=>exact⟨_,aB,H',_,_,_,a9,a4,bJ,cx⟩
 |outgrown=>exact⟨_,aB,H',_,_,_,a9,a4,bJ,cx⟩
end
structure qL where
 f:FuncId
 cl:List Value
 bU:aU
 J:an
 du:Value->aU->an->Prop
 new:Bool
def qL.So(x:qL)(K:dG)(f:FuncId)(cl:List Value)(H:ai)(r:Ending×ai):Prop:=
 x.f=f/\x.cl=cl/\Inv K.g0 (h7 x.bU H x.J) x.J x.bU H/\∃v H' ae m',r=(Ending.returned v,H')/\jn K.Q f cl H (.returned v) H'/\Inv K.g0 (h7 x.bU H x.J) ae m' H'/\x.du v m' ae
def aS(K:dG)(B:dt)(ops:List Oper)(a2:List hT)(F:List qL)(E:b3)(m:aU)(J:an)(bm:b3->aU->an->Prop):Prop:=
 ∀(T:ed) (S:aT) (H:ai),(∀f cl H1 r,T f cl H1=some r->∃x∈F,x.So K f cl H1 r/\(x.new=true->H1.ax<H.ax))->Sat E S->Inv K.g0 B J m H->∃bo:ed,(∀f cl H r cg,T f cl H=some r->bo f cl H=some cg->cg=r)/\∃aB H' E' m' ae,
  (∀fE:ed,(∀f args H r,bo f args H=some r->fE f args H=some r)->dy K.P (hZ K.Q fE) (fU K.Q hQ fE).aE ops a2 S H=some (.ok aB H'))/\Sat E' aB/\Inv K.g0 B ae m' H'/\bm E' m' ae
section
variable {K:dG}{B:dt}{ops:List Oper}{a2:List hT}{F:List qL}{F':List (FuncId×List Value)}{E:b3}{m m':aU}{J:an}{o:Oper}{bm:b3->aU->an->Prop}
variable {n:Nat}{ds:dQ}{l:List (Nat×Value)}{d i:Nat}
theorem bi.iU(h:aS K B ops a2 [] E m J bm):bi K B ops a2 [] E m J bm:=by
 intro S H ak av;obtain⟨bo,_,ab⟩:=h (fun _ _ _=>none) S H (fun _ _ _ _ q=>by cases q) ak av;exact⟨bo,(fun _ _ _ _ _ q=>by cases q),ab⟩
theorem aS.jj(bY:∀x∈F,(x.f,x.cl)∈F')(h:bi K B ops a2 F' E m J bm):aS K B ops a2 F E m J bm:=by
 intro T S H b6 ak av;obtain⟨bo,aa,ab⟩:=h S H ak av;refine⟨bo,fun f cl H1 r cg aR aN=>?_,ab⟩;obtain⟨x,U,⟨aC,aZ,_⟩,_⟩:=b6 f cl H1 r aR;exact absurd (by rw[<-aC,<-aZ];exact bY x U) (aa f cl H1 cg aN)
theorem aS.val{v:Value}(ar:nth ops i=some o)(aq:o.guard=none)(au:o.dst=some d)(aw:Nat.blt d n=true)(ay:cC K B o n ds l m J v)(h:aS K B ops a2 F ⟨n,ds,(d,v)::l⟩ m J bm):aS K B ops (.val i::a2) F ⟨n,ds,l⟩ m J bm:=by
 intro T S H b6 ak av;obtain⟨a1,s1,s2⟩:=ak.put (dst:=some d) aw v;obtain⟨bo,dm,aB,H',E',m',ae,aa,ab,aY,bu⟩:=h T a1 H b6 s2 av;refine⟨bo,dm,aB,H',E',m',ae,fun fE q=>?_,ab,aY,bu⟩;show iv ops i (kH K.P _ _ ops S H (dy K.P _ _ ops a2))=_;unfold iv;rw[ar];show kH K.P _ _ ops S H (dy K.P _ _ ops a2) o=_;unfold kH eZ;rw[aq];show yX S H o.dst (dy K.P _ _ ops a2) (ct K.P _ _ S H o)=_;rw[ay _ _ S H ak av,au];show(bif Nat.beq H.ax H.ax then m7 (dy K.P _ _ ops a2) H (S.put (some d) v) else none)=_;rw[gH,b1,s1];exact aa fE q
theorem aS.b2{is:List Nat}(aL:r5 K B ops n ds l m J is)(h:aS K B ops a2 F ⟨n,ds,l⟩ m J bm):aS K B ops (.b2 is::a2) F ⟨n,ds,l⟩ m J bm:=by
 intro T S H b6 ak av;obtain⟨bo,dm,aB,H',E',m',ae,aa,ab,aY,bu⟩:=h T S H b6 ak av;refine⟨bo,dm,aB,H',E',m',ae,fun fE q=>?_,ab,aY,bu⟩;show zG K.P _ _ ops S H (dy K.P _ _ ops a2) is=_;unfold zG;rw[r5.all ak av aL,b1];exact aa fE q
end
section
variable {K:dG}{B:dt}{R:q0}{ops:List Oper}{a2:List hT}{m:aU}{J:an}{o:Oper}{bm:b3->aU->an->Prop}
variable {n:Nat}{ds:dQ}{l:List (Nat×Value)}{d i g:Nat}{want b:Bool}
end
section
variable {K:dG}{B:dt}{o:Oper}{n:Nat}{ds:dQ}{l:List (Nat×Value)}{m:aU}{J:an}{eg:b3->aU->an->Prop}{d:Nat}
theorem Kc{t e:TypeId}{x:Operand}{ar:Operand}{hX off k cap sz:Nat}{fz:List Value}{b:Int}{rP:IntKind}(ag:o.op=.slice t x none (some ar) none)(U:bH l x=some (.slice (some ⟨hX,off,none⟩) k cap))(aM:iY K.P t=some (e,sz,fz))(kd:bH l ar=some (.int rP b))(aX:0<=b)(aa:b<=cap)(aL:cap<cu)(jO:0<cap):cC K B o n ds l m J (.slice (some ⟨hX,off,none⟩) b.toNat cap):=by
 obtain⟨hu,dA,_⟩:=r0 aM;intro call aE S H ak av;obtain⟨Bt,qp,qq⟩:=vc (ij:=k) (top:=cap) (dl:=(k:Int)) (i:=b) (x:=some ar) ak H (by unfold tE;simp only[kd]) aX aa rfl;unfold ct eA;simp only[ag];show lN K.P _ t (aW S.T H x) (g4 S.T H none) (g4 S.T H (some ar))=_;rw[c1 ak H U,qp,show g4 S.T H none=some none from rfl];unfold lN;simp only
 have:jN K.P H t (.slice (some ⟨hX,off,none⟩) k cap) none Bt=some (.slice (some ⟨hX,off,none⟩) b.toNat cap):=by
  unfold jN;simp only[hu,dA];rw[show Nat.beq cap cu=false from by
   cases ah:Nat.beq cap cu with
   |false=>rfl
   |true=>have:=dX ah;omega,da,qq]
  simp only[jy];rw[show Nat.beq cap 0=false from by
   cases ah:Nat.beq cap 0 with
   |false=>rfl
   |true=>have:=dX ah;omega,da]
  simp
 rw[this];rfl
end
section
variable {K:dG}{B:dt}{R:q0}{ops:List Oper}{a2:List hT}{m:aU}{J:an}{o:Oper}{bm:b3->aU->an->Prop}
variable {n:Nat}{ds:dQ}{l:List (Nat×Value)}{d i g:Nat}{want b:Bool}
end
section
variable {K:dG}{B:dt}{o:Oper}{n:Nat}{ds:dQ}{l:List (Nat×Value)}{m m':aU}{J:an}{eg:b3->aU->an->Prop}
end
end
end Go.Opn

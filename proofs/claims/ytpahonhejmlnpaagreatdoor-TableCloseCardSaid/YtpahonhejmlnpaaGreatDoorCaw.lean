/- A part of the proof of TableClose. -/
import Derived.Test.YtpahonhejmlnpaaGreatDoorCav
set_option linter.unusedVariables false
set_option linter.unusedSimpArgs false
namespace Go.Opn
noncomputable section
open Go.Cre Go.RowKit
open Classical
section
variable {K:dG}{B:dt}{o:Oper}{n:Nat}{ds:dQ}{l:List (Nat×Value)}{m m':aU}{J:an}{eg:b3->aU->an->Prop}{d:Nat}{cB:Exit->b3->aU->an->Prop}
def pL(K:dG)(b0:Nat)(args:List Value)(bU:aU)(J:an)(du:Value->aU->an->Prop):Prop:=
 ∀H,Inv K.g0 (h7 bU H J) J bU H->∃v H' ae m' eX bo,(fU K.Q eX bo).aE b0 args H=some (.returned v,H')/\Inv K.g0 (h7 bU H J) ae m' H'/\du v m' ae
theorem Exec.yield{c:Call}{x:Operand}{b0:Nat}{args:List Value}{bU eD:aU}{du:Value->aU->an->Prop}
 (ag:o.op=.call c)(au:o.dst=some d)(aw:Nat.blt d n=true)(aL:c.callee=.value x)(U:bH l x=some (.func (.yield b0) #[] #[]))(aK:hJ l c.args.toList=some args)
 (ao:(bU++eD).Perm m)(gD:wg bU)(bY:pL K b0 args bU J du)(h:∀v m' ae,J.le ae->du v m' ae->eg ⟨n,ds,(d,v)::l⟩ (m'++eD) ae):Exec K B o ⟨n,ds,l⟩ m J eg:=by
 intro S H ak av;obtain⟨v,H',ae,m',eX,bo,a9,a4,bJ⟩:=bY H (av.enter ao gD);obtain⟨cx,fL⟩:=av.leave ao a4;obtain⟨a1,s1,s2⟩:=ak.put (dst:=some d) aw v;refine⟨eX,bo,a1,H',_,m'++eD,ae,?_,s2,cx,h v m' ae fL bJ⟩;have he:ct K.P (hZ K.Q bo) (fU K.Q eX bo).aE S H o=some (.val v H'):=by
  unfold ct eA;simp only[ag];show jW K.P _ c=_;unfold jW;rw[aL];show mE K.P _ _ S.T H c=_;unfold mE;rw[nq ak H aK];simp only[aL];rw[c1 ak H U];simp only
  show(bif (#[]:Array Value).isEmpty&&(#[]:Array Value).isEmpty then y2 ((fU K.Q eX bo).aE b0 args H) else none)=_;rw[a9];rfl
 rw[he,au];show m3 H' (S.put (some d) v)=_;rw[s1];rfl
def vr(b0:Nat):dQ:=⟨[],some b0,false,.run⟩
def E6:List Tmp->List Value->List (Nat×Value)->List (Nat×Value)
 |t::e1,v::vs,l=>E6 e1 vs ((t,v)::l)
 |_,_,l=>l
theorem acd{dZ:dQ}:∀{e1:List Tmp} {vs:List Value} {l:List (Nat×Value)} {T:aQ Value},q3 n e1=true->e1.length=vs.length->Sat ⟨n,dZ,l⟩ ⟨T,n,dZ.ds,dZ.bB,dZ.bf,dZ.b8⟩->∃di,qw T e1 vs=some di/\Sat ⟨n,dZ,E6 e1 vs l⟩ ⟨di,n,dZ.ds,dZ.bB,dZ.bf,dZ.b8⟩:=by
 intro e1;induction e1 with
 |nil=>intro vs l T _ h ak;cases vs with
  |nil=>exact⟨T,rfl,ak⟩
  |cons=>cases h
 |cons t e1 aP=>
  intro vs l T ah h ak;cases vs with
  |nil=>cases h
  |cons v vs=>
   simp only[q3,fp] at ah;obtain⟨a1,s1,s2⟩:=ak.put (dst:=some t) ah.1 v;have b6:∃nj,aQ.put v T t=some nj/\a1=⟨nj,n,dZ.ds,dZ.bB,dZ.bf,dZ.b8⟩:=by
    have s1:Bool.rec (motive:=fun _=>Option aT) none (aT.pw n dZ.ds dZ.bB dZ.bf dZ.b8 (aQ.put v T t)) (Nat.ble (Nat.succ t) n)=some a1:=s1;have kM:Nat.ble (Nat.succ t) n=true:=by simpa[Nat.blt] using ah.1
    rw[kM] at s1;cases ao:aQ.put v T t with
    |none=>rw[ao] at s1;cases s1
    |some nj=>rw[ao] at s1;injection s1 with s1;exact⟨nj,rfl,s1.symm⟩
   obtain⟨nj,t1,rfl⟩:=b6;obtain⟨di,aC,aZ⟩:=aP (l:=(t,v)::l) ah.2 (by simpa using h) s2;refine⟨di,?_,aZ⟩;simp only[qw,aQ.set];rw[t1];exact aC
theorem pL.of{b0:Nat}{r:mm}{L:List (Nat×Value)}{args:List Value}{bU:aU}{du:Value->aU->an->Prop}(al:r.state=.ready)(vT:(b0,.loop r)∈bU)(b6:Sat ⟨r.n,vr b0,L⟩ ⟨r.T,r.n,[],false,.run,some b0⟩)(Dz:q3 r.n r.params=true)(hlen:r.params.length=args.length)
 (h:∀H,ad K (h7 bU H J) r.assign ⟨r.n,vr b0,E6 r.params args L⟩ bU J fun e E m bq=>e=.normal/\∃cE,dp m b0 (.loop r) (.loop {r with state:=.busy}) cE/\
  ad K (h7 bU H J) r.body E cE bq fun e E m dR=>∃j cM eW jT,yp e=some j/\dp m b0 (.loop cM) (.loop {cM with state:=if j.isNone then .ready else .done,pending:=j}) eW/\jT.Sublist eW/\du (.bool j.isNone) jT dR):pL K b0 args bU J du:=by
 intro H av;obtain⟨di,dm,hA⟩:=acd (dZ:=vr b0) Dz hlen b6;obtain⟨e,a1,H1,gv,cE,bq,bn,bQ,cZ,rfl,eW,e2,dU⟩:=h H _ H hA av;have bn:dc K.Q r.assign ⟨di,r.n,[],false,.run,some b0⟩ H .normal a1 H1:=bn;have cm:H1.mem.get b0=some (.loop r):=(cZ.own _ _ e2.mem).1;obtain⟨bK,jl⟩:=cZ.wf.upd (.loop {r with state:=.busy}) (cZ.lt e2.mem);have C8:=cZ.upd e2 jl (by show bK.mem.get b0=_;rw[(ai.nK jl).2.2.2.2,bg rfl]);obtain⟨aZ,Cs,fi,afp,jT,fV,d1,d2,d3,j,cM,mS,mT,d4,d5,d6,d7⟩:=dU a1 bK bQ C8;have cR:fi.mem.get b0=some (.loop cM):=(d3.own _ _ d5.mem).1;obtain⟨iB,jJ⟩:=d3.wf.upd (.loop {cM with state:=if j.isNone then .ready else .done,pending:=j}) (d3.lt d5.mem);have z9:=d3.upd d5 jJ (by show iB.mem.get b0=_;rw[(ai.nK jJ).2.2.2.2,bg rfl]);have aq:H.mem.get b0=some (.loop r):=(av.own _ _ vT).1;have mK:Nat.ble H.bp b0=true:=j3 (by have:=(av.own _ _ vT).2.2.2;have:=av.bp;omega);refine⟨.bool j.isNone,iB,fV,mT,Ju r.assign ⟨di,r.n,[],false,.run,some b0⟩ H (.normal,a1,H1) r.body a1 bK (aZ,Cs,fi),ki,?_,z9.sub d6,d7⟩
 show(match H.mem.get b0 with
  |some (.loop r)=>bif Nat.ble H.bp b0&&q3 r.n r.params then R6 _ b0 r H (qw r.T r.params args) else none
  |_=>none)=_
 rw[aq];simp only
 rw[mK,Dz,tq,b1,dm];show Kw _ b0 r.body (n1 K.Q _ r.assign ⟨di,r.n,[],false,.run,some b0⟩ H)=_;rw[Gi bn (by unfold Ju;rw[bg ⟨rfl,rfl,rfl⟩])];show B1 _ b0 r.body a1 H1=_;unfold B1;rw[cm];simp only[al];rw[jl];show Kx b0 (n1 K.Q _ r.body a1 bK)=_;rw[Gi d1 (by
  unfold Ju;split
  ·rename_i q;obtain⟨aR,aN,bG⟩:=q;subst bG;rw[(ai.nK jl).2.2.2.2,bg rfl] at aq;injection aq with aq;injection aq with aq
   have:=aj mm.state aq;rw[al] at this;cases this
  ·rw[bg ⟨rfl,rfl,rfl⟩])]
 show(match yp aZ with|some j=>wS fi b0 j|none=>none)=_
 rw[d4];show wS fi b0 j=_;unfold wS;rw[cR];simp only[jJ];rfl
def P'(cB:Exit->b3->aU->an->Prop)(E:b3)(m:aU)(J:an):Option Code->Prop
 |none=>cB .normal E m J
 |some .ret=>cB .ret E m J
 |some (.exit id)=>cB (.exit id) E m J
 |some _=>False
def dQ.plus(dZ:dQ)(r:Nat):dQ:=⟨{target:=.collected r,args:=#[]}::dZ.ds,dZ.b8,dZ.bB,dZ.bf⟩
theorem ad.range{f:Operand}{params:Array Tmp}{assign body:Code}{g:FuncId}{first cap:Array Value}(uc:ds.b8=none)(az:bH l f=some (.func (.func g) first cap))
 (h:∀j8 b0 (T:aQ Value),Sat ⟨n,vr b0,l⟩ ⟨T,n,[],false,.run,some b0⟩->∃bU eD du,(bU++eD).Perm ((b0,.loop ⟨.ready,none,T,n,params.toList,assign,body,j8⟩)::(j8,.ft)::m)/\wg bU/\
  Fn K g ((first.toList++[.func (.yield b0) #[] #[]])++cap.toList) bU J du/\∀v m' ae,J.le ae->du v m' ae->∃cg mR,dp (m'++eD) b0 (.loop cg) (.loop {cg with state:=.exhausted}) mR/\cg.state≠.busy/\P' cB ⟨n,ds.plus j8,l⟩ mR ae cg.pending):
 ad K B (.rangeFunc f params assign body) ⟨n,ds,l⟩ m J cB:=by
 intro S H ak av;obtain⟨H1,aC⟩:=av.wf.new (.ft (some []));have C7:=av.new (p:=.ft) aC (by show H1.mem.get H.ax=_;rw[(ai.mb aC).2.2.2.2.2,bg rfl]);obtain⟨bK,aZ⟩:=C7.wf.new (.loop ⟨.ready,none,S.T,S.n,params.toList,assign,body,H.ax⟩);have aw:S.n=n:=ak.n;have C8:=C7.new (p:=.loop ⟨.ready,none,S.T,n,params.toList,assign,body,H.ax⟩) aZ (by show bK.mem.get H1.ax=_;rw[(ai.mb aZ).2.2.2.2.2,bg rfl,aw]);have YL:Sat ⟨n,vr H1.ax,l⟩ ⟨S.T,n,[],false,.run,some H1.ax⟩:=⟨rfl,rfl,rfl,rfl,rfl,ak.has,ak.get⟩;obtain⟨bU,eD,du,dm,hA,lm,uD⟩:=h H.ax H1.ax S.T YL;obtain⟨v,fi,fV,jT,aR,aN,bG⟩:=lm bK (C8.enter dm hA);obtain⟨dd,fm⟩:=C8.leave dm aN;obtain⟨cg,mS,s1,s2,h'⟩:=uD v jT fV fm bG;have cR:fi.mem.get H1.ax=some (.loop cg):=(dd.own _ _ s1.mem).1;obtain⟨iB,jJ⟩:=dd.wf.upd (.loop {cg with state:=.exhausted}) (dd.lt s1.mem);have z9:=dd.upd s1 jJ (by show iB.mem.get H1.ax=_;rw[(ai.nK jJ).2.2.2.2,bg rfl]);have Hd:Sat ⟨n,ds.plus H.ax,l⟩ {S with ds:={target:=.collected H.ax,args:=#[]}::S.ds}:=⟨ak.n,by show _::_=_::_;rw[ak.ds],ak.bB,ak.bf,ak.b8,ak.has,ak.get⟩;have key:∀m4,JC {S with ds:={target:=.collected H.ax,args:=#[]}::S.ds} cg.pending iB=some m4->dc K.Q (.rangeFunc f params assign body) S H m4.1 m4.2.1 m4.2.2:=fun m4 mN=>by
  refine dc.s' K.eB.ov hQ (mC g ((first.toList++[.func (.yield H1.ax) #[] #[]])++cap.toList) bK (.returned v,fi)) ?_;show xp K.P _ f params assign body S H=_;unfold xp BI;rw[show S.b8=none from ak.b8.trans uc] at mN ⊢;simp only[aC,aZ];rw[c1 ak bK az];unfold Qt;simp only[j9];show JB _ H1.ax ((fU K.Q _ _).body g _ false .run bK)=_;have ah:(fU K.Q hQ (mC g ((first.toList++[.func (.yield H1.ax) #[] #[]])++cap.toList) bK (.returned v,fi))).body g ((first.toList++[.func (.yield H1.ax) #[] #[]])++cap.toList) false .run bK=some (.returned v,.run,fi):=by
   unfold fU;simp only[y8,yi];rw[zD aR (by unfold mC;rw[bg ⟨rfl,rfl,rfl⟩])]
  rw[ah];show BH _ H1.ax fi=_;unfold BH;rw[cR];simp only
  cases dM:cg.state with
  |busy=>exact absurd dM s2
  |ready=>simp only[jJ];exact mN
  |done=>simp only[jJ];exact mN
  |exhausted=>simp only[jJ];exact mN
 cases Oi:cg.pending with
 |none=>rw[Oi] at h' key;exact⟨_,_,_,_,_,_,key _ rfl,Hd,z9,h'⟩
 |some c=>
  rw[Oi] at h' key;cases c with
  |ret=>exact⟨_,_,_,_,_,_,key _ rfl,Hd,z9,h'⟩
  |exit id=>exact⟨_,_,_,_,_,_,key _ rfl,Hd,z9,h'⟩
  |_=>exact absurd h' id
theorem Inv.drop{g0 a:Nat}{b:dh}{c:eF}{H H1:ai}(h:Inv g0 B J m H)(ao:((a,b)::m').Perm m)(aC:H.upd a c=some H1):Inv g0 B J m' H1:=by
 have h:=h.perm ao.symm;obtain⟨a9,a4,bJ,cx⟩:=h.own a b (.head _);have cD:=h.lt (.head _);have dz:=h.fw;rw[show ids ((a,b)::m')=a::(b.rest++ids m') from rfl,pI,nQ] at dz;obtain⟨bI,cY,ee,fa,gV⟩:=ai.nK aC;refine⟨h.wf.EQ cD aC,fa.trans h.bp,by rw[bI];exact h.ax,by rw[ee];exact h.b7,fun x U fl=>?_,fun f az=>by rw[cY];exact h.kX f az,fun x c e a5=>?_,h.le,h.fresh,fun x b ah=>?_,fun x b ah y aF=>by rw[bI];exact h.opn x b (.tail _ ah) y aF,(w5 _ _).nodup dz.2⟩
 ·rw[gV,a3 (fun q=>by subst q;rcases a4 with q|q;·omega
                      ·exact fl q)]
  exact h.ff x U fl
 ·obtain⟨o,f,z,s,q⟩:=h.dB x c e a5
  exact⟨o,f,z,s,by rw[gV,a3 (fun r=>by subst r;rw[bJ] at a5;cases a5)];exact q⟩
 ·obtain⟨fM,fg,iu,jS⟩:=h.own x b (.tail _ ah)
  exact⟨dh.sm fM (by rw[gV,a3 (fun q=>dz.1 (by subst q;exact .inr (uk ah)))]) (fun f l az=>by rw[cY];exact az),fg,iu,jS⟩
inductive w6:List Deferred->aU->aU->Prop
 |nil (m:aU):w6 [] m m
 |CL {r:Nat} {dl:List Deferred} {m cE eW:aU}:((r,.ft)::cE).Perm m->w6 dl cE eW->w6 ({target:=.collected r,args:=#[]}::dl) m eW
theorem w6.run{E':eT}{fn:Func}{T:aQ Value}{dl:List Deferred}{eW:aU}(h:w6 dl m eW):∀{H:ai},Inv K.g0 B J m H->∃H',Inv K.g0 B J eW H'/\∀r,gl K.P E' fn T [] .returning H'=r->gl K.P E' fn T dl .returning H=r:=by
 induction h with
 |nil m=>intro H av;exact⟨H,av,fun r q=>q⟩
 |@CL r dl m cE eW ao _ aP=>
  intro H av;have p5:(r,dh.ft)∈m:=ao.subset (.head _);obtain⟨a9,a4,bJ,cx⟩:=av.own _ _ p5;have a9:H.mem.get r=some (.ft (some [])):=a9;obtain⟨H1,aC⟩:=av.wf.upd (.ft none) (av.lt p5);obtain⟨H',aR,aN⟩:=aP (av.drop ao aC);refine⟨H',aR,fun cg al=>?_⟩;have:=aN cg al;show gl K.P E' fn T ({target:=.collected r,args:=#[]}::dl) .returning H=cg;unfold gl;simp only[A0,da,a9];rw[show Nat.ble H.bp r=true from j3 (by have:=av.bp;omega),b1,aC];exact this
theorem Fn.Jg{f:FuncId}{fn:Func}{c:Code}{args:List Value}{bU:aU}{du:Value->aU->an->Prop}(az:K.eK.get f=some fn)(ah:fn.body=some c)(aA:Nat.ble args.length fn.ntmps=true)
 (h:∀H,ad K (h7 bU H J) c ⟨fn.ntmps,xi,q5 args 0⟩ bU J fun e E m ae=>(e=.normal\/e=.ret)/\∃cE vs m',w6 E.ds.ds m cE/\mw K.P E cE ae fn.results.toList vs/\m'.Sublist cE/\du (oz vs) m' ae):Fn K f args bU J du:=by
 intro H av;obtain⟨T,bx,bX,cy⟩:=FR (vs:=args) (i:=0) (n:=fn.ntmps) (F0 fn.ntmps) (by have:=gy aA;omega);have ak:Sat ⟨fn.ntmps,xi,q5 args 0⟩ ⟨T,fn.ntmps,[],false,.run,none⟩:=by
  refine⟨rfl,rfl,rfl,rfl,rfl,bX,fun t v q=>?_⟩;obtain⟨_,aN⟩:=FQ q;show T.get t=some v;have:t<args.length:=by
   rcases hr t args.length with r|r
   ·exact r
   ·rw[qT (by omega)] at aN;cases aN
  rw[cy,bg (by omega)];exact aN
 obtain⟨e,aB,H',E',dV,ae,a9,a4,bJ,cx,cE,vs,m',fL,iT,l7,nE⟩:=h H _ H ak av;obtain⟨bK,aR,aN⟩:=fL.run (E':=fU K.Q (jB c ⟨T,fn.ntmps,[],false,.run,none⟩ H (e,aB,H')) ki) (fn:=fn) (T:=aB.T) bJ;refine⟨oz vs,bK,ae,m',?_,aR.sub l7,nE⟩;refine jn.run K.eB az ah bx a9 (bf:=aB.bf) ?_;have al:=iT.vt a4 aR;have sN:=aN (some (.returned (oz vs),bK)) (by unfold gl;rw[al]);rcases cx with rfl|rfl
 ·show nk aB.bf (gl K.P _ fn aB.T aB.ds .returning H')=_;rw[a4.ds,sN];rfl
 ·show nk aB.bf (gl K.P _ fn aB.T aB.ds .returning H')=_;rw[a4.ds,sN];rfl
end
section
variable {K:dG}{B:dt}{o:Oper}{n:Nat}{ds:dQ}{l:List (Nat×Value)}{m m':aU}{J:an}{eg:b3->aU->an->Prop}{d:Nat}
theorem Acc.dB{c:Code}{e:TypeId}{sz k:Nat}{v:Value}{cells:List Value}{ba dV:aU}{E:b3}{cB:Exit->b3->aU->an->Prop}(h:Acc e sz v k cells ba)(hm:m=ba++dV)(hk:∀ae,J.le ae->ey ae e sz v k cells->ad K B c E dV ae cB):ad K B c E m J cB:=by
 subst hm;cases h with
 |nil=>exact hk J (an.le.refl _) .nil
 |ik a=>exact hk J (an.le.refl _) (.ik _ _ _ (by decide))
 |@opn a k cells rest z aA a0=>
  intro S H ak av;obtain⟨a9,a4⟩:=av.iW (m:=dV) (x:=(cells,e)) rfl;exact hk _ a4 (.row (an.hH _ _ _) (by rw[kJ,ib (by omega)]) aA (fun q=>absurd rfl q) (fun _=>rfl)) S H ak a9
 |@cap a k C cells full el aa ab aY bu=>
  intro S H ak av;obtain⟨a9,a4⟩:=av.iW (m:=dV) (x:=(full,el)) rfl;exact hk _ a4 (.row (an.hH _ _ _) ab (by rw[<-ab,gp,aa,g9 (lY _ aY)]) (fun _=>⟨aY,bu⟩) (fun q=>absurd q (zk bu))) S H ak a9
end
section
variable {K:dG}{B:dt}{o:Oper}{n:Nat}{ds:dQ}{l:List (Nat×Value)}{m m':aU}{J:an}{eg:b3->aU->an->Prop}{d:Nat}{cB:Exit->b3->aU->an->Prop}
theorem wrap_u8{n:Int}(aa:0<=n)(ab:n<=255):IntKind.u8.wrap n=n:=by
 unfold IntKind.wrap IntKind.signed IntKind.bits;simp only[B',y8,yi];omega
def FO (a b:Int):BinOp->Option Int
 |.add=>some (a+b)
 |.sub=>some (a -b)
 |.mul=>some (a*b)
 |_=>none
theorem aek{op:BinOp}{t dK:TypeId}{x y:Operand}{k:IntKind}{a b c bw:Int}(ag:o.op=.binOp op t x y dK)(U:bH l x=some (.int k a))(aF:bH l y=some (.int k b))(ay:FO a b op=some c)(hw:k.wrap c=bw):cC K B o n ds l m J (.int k bw):=by
 refine Ry ag U aF ?_;cases op<;>simp only[FO,b9,reduceCtorEq] at ay<;>subst ay<;>subst hw<;>rfl
theorem RB{op:BinOp}{t dK:TypeId}{x y:Operand}{a b:List UInt8}{v:Value}(ag:o.op=.binOp op t x y dK)(U:bH l x=some (.string ⟨⟨a⟩⟩))(aF:bH l y=some (.string ⟨⟨b⟩⟩))(dC:op=.eql/\v=.bool (decide (a=b))\/op=.neq/\v=.bool (decide (¬a=b))):cC K B o n ds l m J v:=by
 intro call aE S H ak av;unfold ct eA;simp only[ag];show jV K.P _ op t (aW S.T H x) (aW S.T H y)=_;rw[c1 ak H U,c1 ak H aF];show orElse (eI K.P S.T H o) _=_;have:eI K.P S.T H o=some (.val v H):=by
  rcases dC with⟨rfl,rfl⟩|⟨rfl,rfl⟩
  ·refine mc ak (by rw[ag];rfl) U aF rfl rfl ?_ rfl;unfold execOp;simp only[ag];rw[gS ak H U,gS ak H aF];have ah:binOp .eql t (.string ⟨⟨a⟩⟩) (.string ⟨⟨b⟩⟩)=Op.stringOp .eql ⟨⟨a⟩⟩ ⟨⟨b⟩⟩:=by simp[binOp]
   have aq:eJ K.P (eqGuard .eql t x y (.string ⟨⟨a⟩⟩) (.string ⟨⟨b⟩⟩))=some ():=rfl;rw[fj (a:=.bool (decide (a=b)))]
   ·rfl
   rw[fj aq,ah];show some (Value.bool ((⟨⟨a⟩⟩:ByteArray).toList==(⟨⟨b⟩⟩:ByteArray).toList))=_;rw[L3]
  ·refine mc ak (by rw[ag];rfl) U aF rfl rfl ?_ rfl;unfold execOp;simp only[ag];rw[gS ak H U,gS ak H aF];have ah:binOp .neq t (.string ⟨⟨a⟩⟩) (.string ⟨⟨b⟩⟩)=Op.stringOp .neq ⟨⟨a⟩⟩ ⟨⟨b⟩⟩:=by simp[binOp]
   have aq:eJ K.P (eqGuard .neq t x y (.string ⟨⟨a⟩⟩) (.string ⟨⟨b⟩⟩))=some ():=rfl;rw[fj (a:=.bool (decide (¬a=b)))]
   ·rfl
   rw[fj aq,ah];show some (Value.bool (!((⟨⟨a⟩⟩:ByteArray).toList==(⟨⟨b⟩⟩:ByteArray).toList)))=_;rw[L3,show(!decide (a=b))=decide (¬a=b) by simp]
 rw[this];rfl
def isIface (P:Program)(t:TypeId):Bool:=match P.underlying t with|some (.interface _)=>true|_=>false
def DV:Value->Option Bool
 |.nilIface=>some true
 |.iface _ _=>some false
 |_=>none
theorem aes{t dK:TypeId}{x:Operand}{v:Value}{b:Bool}(ag:o.op=.binOp .eql t x (.const .nilIface) dK)(U:bH l x=some v)(ay:DV v=some b)(aM:isIface K.P t=true):cC K B o n ds l m J (.bool b):=by
 intro call aE S H ak av;have aF:bH l (.const .nilIface)=some .nilIface:=rfl;unfold isIface at aM;split at aM
 ·rename_i Ea hu;cases v with
  |nilIface=>
   simp only[DV,b9] at ay;subst ay;unfold ct eA;simp only[ag];show jV K.P _ .eql t (aW S.T H x) (aW S.T H (.const .nilIface))=_;rw[c1 ak H U,c1 ak H aF];show orElse (eI K.P S.T H o) _=_;have:eI K.P S.T H o=some (.val (.bool true) H):=by
    refine mc ak (by rw[ag];rfl) U aF rfl rfl ?_ rfl;unfold execOp;simp only[ag];rw[gS ak H U,gS ak H aF];rw[fj (a:=.bool true)]
    ·rfl
    rw[fj (a:=())]
    ·have ah:binOp .eql t .nilIface .nilIface=(do pure (.bool (<-Op.equal t .nilIface .nilIface))):=by simp[binOp]
     rw[ah,fj (a:=true)]
     ·rfl
     show eJ K.P (Op.equalIn (9999+1) t .nilIface .nilIface)=_;unfold Op.equalIn;rw[fj (CU hu)];rfl
    ·unfold eqGuard;simp
     rfl
   rw[this];rfl
  |iface jG v'=>
   simp only[DV,b9] at ay;subst ay;cases ao:eI K.P S.T H o with
   |none=>
    refine L5 ag (c1 ak H U) (c1 ak H aF) (fun _ _ q=>by cases q) ao ?_;unfold rU sw;simp only[hu]
   |some r=>
    unfold ct eA;simp only[ag];show jV K.P _ .eql t (aW S.T H x) (aW S.T H (.const .nilIface))=_;rw[c1 ak H U,c1 ak H aF];show orElse (eI K.P S.T H o) _=_;have:eI K.P S.T H o=some (.val (.bool false) H):=by
     have ei:plain (.iface jG v')=true:=by
      cases q:plain (.iface jG v') with
      |true=>rfl
      |false=>
       exfalso;unfold eI at ao;rw[ag] at ao;have:eQ S.T H (Op.binOp BinOp.eql t x (.const .nilIface) dK).operands.toList=some [.iface jG v',.nilIface]:=by
        show eQ S.T H [x,.const .nilIface]=_;simp only[eQ];rw[c1 ak H U,c1 ak H aF]
       rw[this] at ao;simp only[zd,q,B',da] at ao;cases ao
     refine mc ak (by rw[ag];rfl) U aF ei rfl ?_ rfl;unfold execOp;simp only[ag];rw[gS ak H U,gS ak H aF];rw[fj (a:=.bool false)]
     ·rfl
     rw[fj (a:=())]
     ·have ah:binOp .eql t (.iface jG v') .nilIface=(do pure (.bool (<-Op.equal t (.iface jG v') .nilIface))):=by simp[binOp]
      rw[ah,fj (a:=false)]
      ·rfl
      show eJ K.P (Op.equalIn (9999+1) t (.iface jG v') .nilIface)=_;unfold Op.equalIn;rw[fj (CU hu)];rfl
     ·unfold eqGuard;simp
      rfl
    rw[this];rfl
  |_=>simp[DV] at ay
 ·cases aM
theorem WA{S:aT}{ops:List Oper}{d:Nat}{want:Bool}(aq:ka ops o=some (d,want))(ah:S.T.get d=some undef):eZ ops S.T o=some false:=by
 unfold ka at aq;unfold eZ;cases q:o.guard with
 |none=>rw[q] at aq;cases aq
 |some x=>
  obtain⟨j,w⟩:=x;rw[q] at aq;show rm ops S.T (j,w)=_;unfold rm;simp only at aq ⊢;cases aw:nth ops j with
  |none=>rfl
  |some p=>
   rw[aw] at aq;simp only at aq ⊢;cases au:p.dst with
   |none=>rfl
   |some ih=>
    rw[au] at aq;simp only[b9,c'] at aq;obtain⟨rfl,rfl⟩:=aq;simp only[ah];rfl
theorem ad.oU{c:Code}(k:Nat)(news:List (Nat×Value))(aa:ad K B c ⟨n,ds,l⟩ m J fun e E' m' ae=>match e with
 |.normal=>(∃l',E'=⟨n,ds,l'⟩/\mg l' (news++l.drop k))/\m.Sublist m'/\ae=J
 |e=>cB e E' m' ae)(ab:cB .normal ⟨n,ds,news++l.drop k⟩ m J):ad K B c ⟨n,ds,l⟩ m J cB:=ad.cut aa ab
theorem ad.Z6{α:Type}{c:Code}{base:List (Nat×Value)}(pn:α->List (Nat×Value))(mem:α->aU)(dB:α->an)(inv:α->Prop)(pk:α->Nat)(s:α)(af:inv s)
 (bT:∀s,inv s->ad K B c ⟨n,ds,pn s++base⟩ (mem s) (dB s) fun e E m J=>match e with
  |.normal=>∃df l,inv df/\pk df<pk s/\E=⟨n,ds,l⟩/\mg l (pn df++base)/\(mem df).Sublist m/\J=dB df
  |e=>cB e E m J):ad K B (.loop c) ⟨n,ds,pn s++base⟩ (mem s) (dB s) cB:=
 ad.loop (fun s=>pn s++base) mem dB inv pk bT s af
theorem ad.mQ{α:Type}{c:Code}{base:List (Nat×Value)}(pn:α->List (Nat×Value))(inv:α->Prop)(pk:α->Nat)(s:α)(af:inv s)
 (bT:∀s,inv s->ad K B c ⟨n,ds,pn s++base⟩ m J fun e E cE bq=>match e with
  |.normal=>∃df l,inv df/\pk df<pk s/\E=⟨n,ds,l⟩/\mg l (pn df++base)/\m.Sublist cE/\bq=J
  |e=>cB e E cE bq):ad K B (.loop c) ⟨n,ds,pn s++base⟩ m J cB:=
 ad.loop (fun s=>pn s++base) (fun _=>m) (fun _=>J) inv pk bT s af
theorem ad.A9{c:Code}{E:b3}(h:ad K B c E m J fun e E m J=>match e with
 |.normal=>ad K B (.loop c) E m J cB
 |e=>cB e E m J):ad K B (.loop c) E m J cB:=by
 intro S H ak av;obtain⟨e,a1,H1,gv,cE,bq,aa,ab,aY,bu⟩:=h S H ak av;cases e with
 |normal=>
  have bu:ad K B (.loop c) gv cE bq cB:=bu;obtain⟨bk,aB,H',E',m',ae,a9,a4,bJ,cx⟩:=bu a1 H1 ab aY;exact⟨bk,aB,H',E',m',ae,dc.Ph aa a9,a4,bJ,cx⟩
 |exit i=>exact⟨_,a1,H1,gv,cE,bq,dc.rQ aa (fun q=>by cases q),ab,aY,bu⟩
 |goto i=>exact⟨_,a1,H1,gv,cE,bq,dc.rQ aa (fun q=>by cases q),ab,aY,bu⟩
 |ret=>exact⟨_,a1,H1,gv,cE,bq,dc.rQ aa (fun q=>by cases q),ab,aY,bu⟩
 |panic c=>exact⟨_,a1,H1,gv,cE,bq,dc.rQ aa (fun q=>by cases q),ab,aY,bu⟩
 |outgrown=>exact⟨_,a1,H1,gv,cE,bq,dc.rQ aa (fun q=>by cases q),ab,aY,bu⟩
theorem dp.app{ba m m':aU}{a:Nat}{b b':dh}(h:dp m a b b' m'):dp (ba++m) a b b' (ba++m'):=by
 induction ba with
 |nil=>exact h
 |cons x ba aP=>exact .tail x aP
theorem W.dB{ops rest:List Oper}{bm:Option (List PanicEntry)->b3->aU->an->Prop}{E:b3}{a:Nat}{b:dh}{x:List Value×TypeId}(U:b.rowOf=some x)(h:J.le (J.add a x)->(J.add a x) a=some x->W K B ops rest E m (J.add a x) bm):W K B ops rest E ((a,b)::m) J bm:=by
 intro S H ak av;obtain⟨a9,a4⟩:=av.iW U;exact h a4 (an.hH _ _ _) S H ak a9
def zb(J:an)(v:Value)(l:List Int):Prop:=∃e,ey J e 1 v l.length (l.map (Value.int .i64))
theorem aex{c:Call}{s:List UInt8}{t:TypeId}(ag:o.op=.call c)(aL:c.callee=.builtin .len)(aK:hJ l c.args.toList=some [.string ⟨⟨s⟩⟩])(aM:c.argTypes.toList=[t])(af:rN K.P t=true):cC K B o n ds l m J (.int .i64 s.length):=aez ag aL aK aM af
theorem aev{t:TypeId}{x bj:Operand}{s:List UInt8}{k:IntKind}{i:Int}{b:UInt8}(ag:o.op=.index t x bj)(U:bH l x=some (.string ⟨⟨s⟩⟩))(ar:bH l bj=some (.int k i))(aM:rN K.P t=true)(aX:0<=i)(ah:s[i.toNat]?=some b):cC K B o n ds l m J (.int .u8 b.toNat):=aew ag U ar aM aX ah
theorem abZ{α:Type}:∀(L:List α) (k:Nat) (h:k<L.length),(L[k]::L.eraseIdx k).Perm L:=by
 intro L;induction L with
 |nil=>intro k h;cases h
 |cons a L aP=>
  intro k h;cases k with
  |zero=>exact List.Perm.refl _
  |succ k=>exact(List.Perm.swap _ _ _).trans ((aP k (by simpa using h)).cons a)
theorem hR{α:Type}{p:α}{rest L:List α}(k:Nat)(ao:nth L k=some p)(al:rest.Perm (L.eraseIdx k)):(p::rest).Perm L:=by
 rw[jU] at ao;obtain⟨h,rfl⟩:=hq.1 ao;exact(al.cons _).trans (abZ L k h)
end
section
variable {K:dG}{B:dt}{n:Nat}{ds:dQ}{l:List (Nat×Value)}{m:aU}{J:an}{cB:Exit->b3->aU->an->Prop}
structure qP (r:mm) (n:Nat) (params:List Tmp) (assign body:Code) (b0:Nat) (l:List (Nat×Value)):Prop where
 jk:r.state=.ready
 aaI:r.n=n
 ps:r.params=params
 cl:r.assign=assign
 jx:r.body=body
 rW:r.pending=none
 sat:Sat ⟨n,vr b0,l⟩ ⟨r.T,n,[],false,.run,some b0⟩
theorem ad.JD{f:Operand}{params:Array Tmp}{assign body:Code}{g:FuncId}{first cap:Array Value}(uc:ds.b8=none)(az:bH l f=some (.func (.func g) first cap))
 (h:∀j8 b0 (r:mm),qP r n params.toList assign body b0 l->∃bU eD du,(bU++eD).Perm ((b0,.loop r)::(j8,.ft)::m)/\wg bU/\
  Fn K g ((first.toList++[.func (.yield b0) #[] #[]])++cap.toList) bU J du/\∀v m' ae,J.le ae->du v m' ae->∃cg mR,dp (m'++eD) b0 (.loop cg) (.loop {cg with state:=.exhausted}) mR/\cg.state≠.busy/\P' cB ⟨n,ds.plus j8,l⟩ mR ae cg.pending):
 ad K B (.rangeFunc f params assign body) ⟨n,ds,l⟩ m J cB:=
 ad.range uc az fun j8 b0 T b6=>h j8 b0 ⟨.ready,none,T,n,params.toList,assign,body,j8⟩ ⟨rfl,rfl,rfl,rfl,rfl,rfl,b6⟩
theorem qP.again{r:mm}{params:List Tmp}{assign body:Code}{b0:Nat}(h:qP r n params assign body b0 l):qP {r with state:=.ready,pending:=none} n params assign body b0 l:=⟨rfl,h.aaI,h.ps,h.cl,h.jx,rfl,h.sat⟩
theorem pL.Jf{b0:Nat}{r:mm}{params:List Tmp}{assign body:Code}{args:List Value}{bU:aU}{du:Value->aU->an->Prop}(al:qP r n params assign body b0 l)(vT:(b0,.loop r)∈bU)(Dz:q3 n params=true)(hlen:params.length=args.length)
 (h:∀H,ad K (h7 bU H J) assign ⟨n,vr b0,E6 params args l⟩ bU J fun e E m bq=>e=.normal/\∃cE,dp m b0 (.loop r) (.loop {r with state:=.busy}) cE/\
  ad K (h7 bU H J) body E cE bq fun e E m dR=>∃j cM eW jT,yp e=some j/\dp m b0 (.loop cM) (.loop {cM with state:=if j.isNone then .ready else .done,pending:=j}) eW/\jT.Sublist eW/\du (.bool j.isNone) jT dR):pL K b0 args bU J du:=by
 obtain⟨aa,rfl,rfl,rfl,rfl,_,hK⟩:=al;exact pL.of aa vT hK Dz hlen h
end
structure Sk (H H':ai):Prop where
 wf:hF H'
 bp:H'.bp=H.bp
 ax:H.ax<=H'.ax
 b7:H.b7<=H'.b7
 ff:∀a,a<H.ax->H'.mem.get a=H.mem.get a
 kX:∀f,f<H.b7->H'.bl.get f=H.bl.get f
open Classical in
def T2 (K:dG)(f:FuncId)(cl:List Value)(v:Value)(H:ai):ai:=if h:∃H',jn K.Q f cl H (.returned v) H'/\Sk H H' then Classical.choose h else H
abbrev q0:=List (FuncId×List Value×Value)
def QA:q0->FuncId->Option (List Value×Value)
 |[],_=>none
 |(g,cl,v)::R,f=>bif Nat.beq f g then some (cl,v) else QA R f
open Classical in
def wA (K:dG)(R:q0):ed:=fun f args H=>match QA R f with
 |some (cl,v)=>if args=cl then some (.returned v,T2 K f args v H) else none
 |none=>none
def fW(K:dG)(B:dt)(R:q0)(ops:List Oper)(a2:List hT)(E:b3)(m:aU)(J:an)(bm:b3->aU->an->Prop):Prop:=
 ∀S H,Sat E S->Inv K.g0 B J m H->∃aB H' E' m' ae,dy K.P (hZ K.Q (wA K R)) (fU K.Q hQ (wA K R)).aE ops a2 S H=some (.ok aB H')/\Sat E' aB/\Inv K.g0 B ae m' H'/\bm E' m' ae
section
variable {K:dG}{B:dt}{R:q0}{ops:List Oper}{a2:List hT}{E:b3}{m m':aU}{J:an}{o:Oper}{bm:b3->aU->an->Prop}{cB:Exit->b3->aU->an->Prop}
variable {n:Nat}{ds:dQ}{l:List (Nat×Value)}{d i g:Nat}{want b:Bool}
theorem ad.U4(R:q0){id:Nat}{a:Array Oper}(aA:D6 a.toList=none)(hN:zP a.toList=true)(ao:Ew a.toList=a2)(h:fW K B R a.toList a2 E m J fun E m J=>cB .normal E m J):ad K B (.region id a true) E m J cB:=by
 intro S H ak av;obtain⟨aB,H',E',m',ae,aa,ab,aY,bu⟩:=h S H ak av;refine⟨.normal,aB,H',E',m',ae,dc.s' K.eB.ov hQ (wA K R) ?_,ab,aY,bu⟩;show qB (tO K.P (fU K.Q hQ (wA K R)).call (fU K.Q hQ (wA K R)).aE a.toList S H)=_;rw[E9];unfold tO;rw[aA];show qB (vu K.P (hZ K.Q (wA K R)) (fU K.Q hQ (wA K R)).aE a.toList S H)=_;unfold vu;rw[hN,b1,ao,aa];rfl
theorem fW.nil(h:bm E m J):fW K B R ops [] E m J bm:=fun S H ak av=>⟨S,H,E,m,J,rfl,ak,av,h⟩
theorem fW.split(ah:look l d=some (.bool b))(aa:b=true->fW K B R ops a2 ⟨n,ds,(d,.bool true)::l⟩ m J bm)(aX:b=false->fW K B R ops a2 ⟨n,ds,(d,.bool false)::l⟩ m J bm):fW K B R ops a2 ⟨n,ds,l⟩ m J bm:=by
 intro S H ak av;have key:∀c:Bool,b=c->Sat ⟨n,ds,(d,.bool c)::l⟩ S:=fun c e=>by
  subst e;refine⟨ak.n,ak.ds,ak.bB,ak.bf,ak.b8,ak.has,fun t v q=>?_⟩;have aN:(bif Nat.beq t d then some (Value.bool b) else look l t)=some v:=q;cases cc:Nat.beq t d with
  |true=>rw[cc,b1] at aN;obtain rfl:=dX cc;rw[<-aN];exact ak.get _ _ ah
  |false=>rw[cc,da] at aN;exact ak.get t v aN
 cases b with
 |true=>exact aa rfl S H (key true rfl) av
 |false=>exact aX rfl S H (key false rfl) av
theorem fW.RK{v:Value}(ar:nth ops i=some o)(ep:∀S,Sat ⟨n,ds,l⟩ S->eZ ops S.T o=some true)(au:o.dst=some d)(aw:Nat.blt d n=true)(ay:cC K B o n ds l m J v)(h:fW K B R ops a2 ⟨n,ds,(d,v)::l⟩ m J bm):fW K B R ops (.val i::a2) ⟨n,ds,l⟩ m J bm:=by
 intro S H ak av;obtain⟨a1,s1,s2⟩:=ak.put (dst:=some d) aw v;obtain⟨aB,H',E',m',ae,aa,ab,aY,bu⟩:=h a1 H s2 av;refine⟨aB,H',E',m',ae,?_,ab,aY,bu⟩;show iv ops i (kH K.P _ _ ops S H (dy K.P _ _ ops a2))=_;unfold iv;rw[ar];show kH K.P _ _ ops S H (dy K.P _ _ ops a2) o=_;unfold kH;rw[ep S ak];show yX S H o.dst (dy K.P _ _ ops a2) (ct K.P _ _ S H o)=_;rw[ay _ _ S H ak av,au];show(bif Nat.beq H.ax H.ax then m7 (dy K.P _ _ ops a2) H (S.put (some d) v) else none)=_;rw[gH,b1,s1];exact aa
theorem fW.Ke(ar:nth ops i=some o)(ep:∀S,Sat ⟨n,ds,l⟩ S->eZ ops S.T o=some false)(au:o.dst=some d)(aw:Nat.blt d n=true)(h:fW K B R ops a2 ⟨n,ds,(d,undef)::l⟩ m J bm):fW K B R ops (.val i::a2) ⟨n,ds,l⟩ m J bm:=by
 intro S H ak av;obtain⟨a1,s1,s2⟩:=ak.put (dst:=some d) aw undef;obtain⟨aB,H',E',m',ae,aa,ab,aY,bu⟩:=h a1 H s2 av;refine⟨aB,H',E',m',ae,?_,ab,aY,bu⟩;show iv ops i (kH K.P _ _ ops S H (dy K.P _ _ ops a2))=_;unfold iv;rw[ar];show kH K.P _ _ ops S H (dy K.P _ _ ops a2) o=_;unfold kH;rw[ep S ak];show m7 (dy K.P _ _ ops a2) H (S.put o.dst undef)=_;rw[au,s1];exact aa
theorem Wg(aq:o.guard=none):∀S,Sat ⟨n,ds,l⟩ S->eZ ops S.T o=some true:=fun S ak=>by unfold eZ;rw[aq]
theorem M7(aq:ka ops o=some (g,want))(ah:look l g=some (.bool b))(hw:(b==want)=true):∀S,Sat ⟨n,ds,l⟩ S->eZ ops S.T o=some true:=fun S ak=>by rw[xC aq (ak.get g _ ah),hw]
theorem C3(aq:ka ops o=some (g,want))(ah:look l g=some (.bool b))(hw:(b==want)=false):∀S,Sat ⟨n,ds,l⟩ S->eZ ops S.T o=some false:=fun S ak=>by rw[xC aq (ak.get g _ ah),hw]
theorem Wh(aq:ka ops o=some (g,want))(ah:look l g=some undef):∀S,Sat ⟨n,ds,l⟩ S->eZ ops S.T o=some false:=fun S ak=>WA aq (ak.get g _ ah)
theorem fW.val{v:Value}(ar:nth ops i=some o)(aq:o.guard=none)(au:o.dst=some d)(aw:Nat.blt d n=true)(ay:cC K B o n ds l m J v)(h:fW K B R ops a2 ⟨n,ds,(d,v)::l⟩ m J bm):fW K B R ops (.val i::a2) ⟨n,ds,l⟩ m J bm:=fW.RK ar (Wg aq) au aw ay h
theorem fW.Kd{v:Value}(ar:nth ops i=some o)(aq:ka ops o=some (g,want))(ah:look l g=some (.bool b))(hw:(b==want)=true)(au:o.dst=some d)(aw:Nat.blt d n=true)(ay:cC K B o n ds l m J v)(h:fW K B R ops a2 ⟨n,ds,(d,v)::l⟩ m J bm):fW K B R ops (.val i::a2) ⟨n,ds,l⟩ m J bm:=fW.RK ar (M7 aq ah hw) au aw ay h
theorem fW.na(ar:nth ops i=some o)(aq:ka ops o=some (g,want))(ah:look l g=some (.bool b))(hw:(b==want)=false)(au:o.dst=some d)(aw:Nat.blt d n=true)(h:fW K B R ops a2 ⟨n,ds,(d,undef)::l⟩ m J bm):fW K B R ops (.val i::a2) ⟨n,ds,l⟩ m J bm:=fW.Ke ar (C3 aq ah hw) au aw h
theorem fH.of{v u:Value}(ar:nth ops i=some o)(ep:∀S,Sat ⟨n,ds,l⟩ S->eZ ops S.T o=some true)(au:o.dst=some d)(ay:cC K B o n ds l m J v)(hu:look l d=some u)(he:c4 8 v u=true):fH K B ops n ds l m J i:=by
 intro call aE S H ak av;unfold sr;rw[ar];show CF K.P call aE ops S H o (eZ ops S.T o)=true;rw[ep S ak];show CG H.ax S.T o.dst (ct K.P call aE S H o)=true;rw[ay _ _ S H ak av,au];show(Nat.beq H.ax H.ax&&(match S.T.get d with|some u=>c4 8 v u|none=>false))=true
 rw[gH,ak.get d u hu];simpa using he
theorem fH.Kd{v u:Value}(ar:nth ops i=some o)(aq:ka ops o=some (g,want))(ah:look l g=some (.bool b))(hw:(b==want)=true)(au:o.dst=some d)(ay:cC K B o n ds l m J v)(hu:look l d=some u)(he:c4 8 v u=true):fH K B ops n ds l m J i:=fH.of ar (M7 aq ah hw) au ay hu he
theorem fH.no(ar:nth ops i=some o)(ep:∀S,Sat ⟨n,ds,l⟩ S->eZ ops S.T o=some false):fH K B ops n ds l m J i:=by
 intro call aE S H ak av;unfold sr;rw[ar];show CF K.P call aE ops S H o (eZ ops S.T o)=true;rw[ep S ak];rfl
theorem uO{op:BinOp}{t dK:TypeId}{x y:Operand}{a c:Bool}{v:Value}(ag:o.op=.binOp op t x y dK)(U:bH l x=some (.bool a))(aF:bH l y=some (.bool c))(dC:op=.eql/\v=.bool (decide (a=c))\/op=.neq/\v=.bool (decide (¬a=c)))(aM:K.P.underlying t=some .bool):cC K B o n ds l m J v:=by
 intro call aE S H ak av;unfold ct eA;simp only[ag];show jV K.P _ op t (aW S.T H x) (aW S.T H y)=_;rw[c1 ak H U,c1 ak H aF];show orElse (eI K.P S.T H o) _=_;have vQ:eJ K.P (Op.equal t (.bool a) (.bool c))=some (decide (a=c)):=by
  show eJ K.P (Op.equalIn (9999+1) t (.bool a) (.bool c))=_;unfold Op.equalIn;rw[fj (CU aM)];show some (a==c)=_;cases a<;>cases c<;>rfl
 have:eI K.P S.T H o=some (.val v H):=by
  rcases dC with⟨rfl,rfl⟩|⟨rfl,rfl⟩
  ·refine mc ak (by rw[ag];rfl) U aF rfl rfl ?_ rfl;unfold execOp;simp only[ag];rw[gS ak H U,gS ak H aF];have ah:binOp .eql t (.bool a) (.bool c)=(do pure (.bool (<-Op.equal t (.bool a) (.bool c)))):=by simp[binOp]
   have aq:eJ K.P (eqGuard .eql t x y (.bool a) (.bool c))=some ():=rfl;rw[fj (a:=.bool (decide (a=c)))]
   ·rfl
   rw[fj aq,ah,fj vQ];rfl
  ·refine mc ak (by rw[ag];rfl) U aF rfl rfl ?_ rfl;unfold execOp;simp only[ag];rw[gS ak H U,gS ak H aF];have ah:binOp .neq t (.bool a) (.bool c)=(do pure (.bool (!(<-Op.equal t (.bool a) (.bool c))))):=by simp[binOp]
   have aq:eJ K.P (eqGuard .neq t x y (.bool a) (.bool c))=some ():=rfl;rw[fj (a:=.bool (decide (¬a=c)))]
   ·rfl
   rw[fj aq,ah,fj vQ];show some (Value.bool (!decide (a=c)))=_;rw[show(!decide (a=c))=decide (¬a=c) by simp]
 rw[this];rfl
theorem RL(b:Bool)(n:Nat):c4 (n+1) (.bool b) (.bool b)=true:=by cases b<;>rfl
theorem RO(s:ByteArray)(n:Nat):c4 (n+1) (.string s) (.string s)=true:=by
 show decide (s.data.toList=s.data.toList)=true;simp
theorem ad.Mt{c:Code}(k:Nat)(news:List (Nat×Value))(aa:ad K B c ⟨n,ds,l⟩ m J fun e E' m' ae=>match e with
 |.normal=>(∃l',E'=⟨n,ds,l'⟩/\mg l' (news++l.drop k))/\m.Sublist m'/\J.le ae
 |e=>cB e E' m' ae)(ab:∀ae,J.le ae->cB .normal ⟨n,ds,news++l.drop k⟩ m ae):ad K B c ⟨n,ds,l⟩ m J cB:=by
 intro S H ak av;obtain⟨e,aB,H',E',cE,ae,a9,a4,bJ,cx⟩:=aa S H ak av;cases e with
 |normal=>
  obtain⟨⟨l',rfl,fL⟩,iT,l7⟩:=cx;exact⟨_,aB,H',_,m,_,a9,a4.sub fL,bJ.sub iT,ab _ l7⟩
 |exit i=>exact⟨_,aB,H',_,_,_,a9,a4,bJ,cx⟩
 |goto i=>exact⟨_,aB,H',_,_,_,a9,a4,bJ,cx⟩
 |ret=>exact⟨_,aB,H',_,_,_,a9,a4,bJ,cx⟩
 |panic c=>exact⟨_,aB,H',_,_,_,a9,a4,bJ,cx⟩
 |outgrown=>exact⟨_,aB,H',_,_,_,a9,a4,bJ,cx⟩
end
section
variable {K:dG}{B:dt}{ops:List Oper}{a2:List hT}{E:b3}{m m':aU}{J:an}{o:Oper}{bm:b3->aU->an->Prop}{cB:Exit->b3->aU->an->Prop}
variable {n:Nat}{ds:dQ}{l:List (Nat×Value)}{d i:Nat}
end
end
end Go.Opn

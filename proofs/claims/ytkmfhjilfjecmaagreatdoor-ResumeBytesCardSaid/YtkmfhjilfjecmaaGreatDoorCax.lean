/- A part of the proof of ResumeBytes. -/
import Derived.Test.YtkmfhjilfjecmaaGreatDoorCaw
import Derived.Test.YtkmfhjilfjecmaaGreatDoorCat
set_option linter.unusedVariables false
set_option linter.unusedSimpArgs false
namespace Go.Opn
noncomputable section
open Go.Cre Go.RowKit
def Qt (P:Program)(t:TypeId):Bool:=match P.underlying t with
 |some (.array 2 e)=>(match P.underlying e with|some (.int .i64)=>true|_=>false)&&(match ef P e with|some 1=>true|_=>false)&&!P.eqGuardType P.depth t
 |_=>false
theorem ae3{P:Program}{t:TypeId}{k:Nat}(h:ef P t=some k):eY P (sizeOf t)=some k:=by
 unfold ef at h;split at h
 ·rename_i i ao;injection h with h;subst h
  unfold sizeOf;rw[eb (a:=i)]
  ·rfl
  ·unfold typeInfo;rw[eb (a:=P) rfl,ao];rfl
 ·cases h
theorem RK{P:Program}{e:TypeId}{n i:Nat}{xs ys:Array Value}{a c:Int}(he:P.underlying e=some (.int .i64))(U:xs[i]?=some (.int .i64 a))(ai:ys[i]?=some (.int .i64 c)):eY P (do
 let tu <-part e xs i
 let FU <-part e ys i
 let tu <-Op.equalIn (n+1) e tu FU
 if(!tu)=true then pure (ForInStep.done ((some false,()):Option Bool×Unit)) else pure (ForInStep.yield (none,())))=some (if a=c then ForInStep.yield (none,()) else ForInStep.done (some false,())):=by
 rw[eb (LU he U),eb (LU he ai),eb (eq_int he)];by_cases nb:a=c
 ·simp[nb];rfl
 ·simp[nb];rfl
theorem aeB{P:Program}{t:TypeId}{n:Nat}{a b c d:Int}(aB:Qt P t=true):eY P (Op.equalIn (n+1+1) t (.agg #[.int .i64 a,.int .i64 b]) (.agg #[.int .i64 c,.int .i64 d]))=some (decide (a=c/\b=d))/\P.eqGuardType P.depth t=false:=by
 unfold Qt at aB;split at aB
 ·rename_i e hu;simp only[fS,qU] at aB;obtain⟨⟨aa,ae⟩,aF⟩:=aB;have he:P.underlying e=some (.int .i64):=by split at aa;assumption;cases aa
  have hs:ef P e=some 1:=by split at ae;assumption;cases ae
  refine⟨?_,aF⟩;unfold Op.equalIn;rw[eb (y9 hu)];simp only
  rw[eb (ae3 hs)];simp only[Std.Legacy.Range.forIn_eq_forIn_range',Std.Legacy.Range.size]
  show eY P (do
   let r <-forIn [0,1] ((none,()):Option Bool×Unit) _
   _)=_
  rw[SE];by_cases aa:a=c
  ·have bb:=RK (n:=n) (xs:=#[.int .i64 a,.int .i64 b]) (ys:=#[.int .i64 c,.int .i64 d]) (i:=0) he rfl rfl;rw[aE aa] at bb;rw[eb (a:=((if b=d then none else some false,()):Option Bool×Unit))]
   ·by_cases ae:b=d
    ·rw[aE ae];simp[aa,ae];rfl
    ·rw[an ae];simp[ae];rfl
   ·rw[eb bb];simp only
    rw[SE];have a7:=RK (n:=n) (xs:=#[.int .i64 a,.int .i64 b]) (ys:=#[.int .i64 c,.int .i64 d]) (i:=1) he rfl rfl;rw[eb a7];by_cases ae:b=d
    ·simp[ae];rfl
    ·simp[ae];rfl
  ·have bb:=RK (n:=n) (xs:=#[.int .i64 a,.int .i64 b]) (ys:=#[.int .i64 c,.int .i64 d]) (i:=0) he rfl rfl;rw[an aa] at bb;rw[eb (a:=((some false,()):Option Bool×Unit))]
   ·simp[aa];rfl
   ·rw[eb bb];rfl
 ·cases aB
section
variable {K:eE}{B:dV}{o:Oper}{n:Nat}{ds:e7}{l:List (Nat×Value)}{m m':aN}{J:aH}{ey:cf->aN->aH->Prop}{d:Nat}
theorem Z8{op:BinOp}{t eS:TypeId}{x y:Operand}{a b c e:Int}{r:Bool}(ar:o.op=.binOp op t x y eS)(d':op=.eql/\r=decide (a=c/\b=e)\/op=.neq/\r=decide (¬(a=c/\b=e)))(U:b6 l x=some (.agg #[.int .i64 a,.int .i64 b]))(ai:b6 l y=some (.agg #[.int .i64 c,.int .i64 e]))(aB:Qt K.P t=true):dm K B o n ds l m J (.bool r):=by
 obtain⟨aa,ae⟩:=aeB (n:=9998) (a:=a) (b:=b) (c:=c) (d:=e) aB;intro call aR S H ax aJ;have dE:∀p q:Int,plain (.agg #[.int .i64 p,.int .i64 q])=true:=fun p q=>rfl;unfold cJ fe;simp only[ar];show pd K.P _ op t (bj S.T H x) (bj S.T H y)=_;rw[dy ax H U,dy ax H ai];show orElse (gm K.P S.T H o) _=_;have:gm K.P S.T H o=some (.val (.bool r) H):=by
  refine zS ax (by rw[ar];rfl) U ai (dE _ _) (dE _ _) ?_ rfl;unfold execOp;simp only[ar];rw[lH ax H U,lH ax H ai];rw[eb (a:=.bool r)]
  ·rfl
  rcases d' with⟨rfl,rfl⟩|⟨rfl,rfl⟩
  ·rw[eb (a:=())]
   ·have ap:binOp .eql t (.agg #[.int .i64 a,.int .i64 b]) (.agg #[.int .i64 c,.int .i64 e])=(do pure (.bool (<-Op.equal t (.agg #[.int .i64 a,.int .i64 b]) (.agg #[.int .i64 c,.int .i64 e])))):=by simp[binOp]
    rw[ap,eb (s:=Op.equal t _ _) aa];rfl
   ·unfold eqGuard;simp only[lY,Fx,EA];rw[eb (a:=K.P) rfl,eb (a:=K.P) rfl,ae];rfl
  ·rw[eb (a:=())]
   ·have ap:binOp .neq t (.agg #[.int .i64 a,.int .i64 b]) (.agg #[.int .i64 c,.int .i64 e])=(do pure (.bool (!(<-Op.equal t (.agg #[.int .i64 a,.int .i64 b]) (.agg #[.int .i64 c,.int .i64 e]))))):=by simp[binOp]
    rw[ap,eb (s:=Op.equal t _ _) aa];show some (Value.bool (!decide (a=c/\b=e)))=_;rw[show(!decide (a=c/\b=e))=decide (¬(a=c/\b=e)) by simp]
   ·unfold eqGuard;simp only[lY,Fx,EA];rw[eb (a:=K.P) rfl,eb (a:=K.P) rfl,ae];rfl
 rw[this];rfl
end
def u7(K:eE)(B:dV)(ops:List Oper)(bc:List jF)(E:cf)(m:aN)(J:aH)(bH:cf->aN->aH->Prop):Prop:=
 ∀S H,Sat E S->Inv K.g0 B J m H->∃aS H' E' m' af,
  (∀fa:eH,dL K.P (hM K.Q fa) (gH K.Q gW fa).aR ops bc S H=some (.ok aS H'))/\Sat E' aS/\Inv K.g0 B af m' H'/\bH E' m' af
section
variable {K:eE}{B:dV}{ops:List Oper}{bc:List jF}{E:cf}{m m':aN}{J:aH}{o:Oper}{bH:cf->aN->aH->Prop}{cX:Exit->cf->aN->aH->Prop}
variable {n:Nat}{ds:e7}{l:List (Nat×Value)}{d i:Nat}
theorem u7.nil(h:bH E m J):u7 K B ops [] E m J bH:=fun S H ax aJ=>⟨S,H,E,m,J,fun _=>rfl,ax,aJ,h⟩
theorem u7.val{v:Value}(ao:nth ops i=some o)(aq:o.guard=none)(aV:o.dst=some d)(aP:Nat.blt d n=true)(ay:dm K B o n ds l m J v)(h:u7 K B ops bc ⟨n,ds,(d,v)::l⟩ m J bH):u7 K B ops (.val i::bc) ⟨n,ds,l⟩ m J bH:=by
 intro S H ax aJ;obtain⟨bn,s1,s2⟩:=ax.put (dst:=some d) aP v;obtain⟨aS,H',E',m',af,aa,ae,aF,bo⟩:=h bn H s2 aJ;refine⟨aS,H',E',m',af,fun fa=>?_,ae,aF,bo⟩;show jy ops i (mM K.P _ _ ops S H (dL K.P _ _ ops bc))=_;unfold jy;rw[ao];show mM K.P _ _ ops S H (dL K.P _ _ ops bc) o=_;unfold mM fD;rw[aq];show CH S H o.dst (dL K.P _ _ ops bc) (cJ K.P _ _ S H o)=_;rw[ay _ _ S H ax aJ,aV];show(bif Nat.beq H.ak H.ak then pX (dL K.P _ _ ops bc) H (S.put (some d) v) else none)=_;rw[hz,b7,s1];exact aa fa
theorem gy.T6{c:Call}{x:Operand}{f:FuncId}{first cap:Array Value}{args bT:List Value}{eP:Value->aN->aH->Prop}
 (ao:nth ops i=some o)(aq:o.guard=none)(ar:o.op=.call c)(aV:o.dst=some d)(aP:Nat.blt d n=true)(aC:c.callee=.value x)(U:b6 l x=some (.func (.func f) first cap))(a1:hY l c.args.toList=some args)(has:(first.toList++args)++cap.toList=bT)
 (fJ:Fn K f bT [] J eP)(h:∀v m' af,J.le af->eP v m' af->u7 K B ops bc ⟨n,ds,(d,v)::l⟩ (m'++m) af bH):gy K B ops (.bR i::bc) ⟨n,ds,l⟩ m J bH:=by
 intro S H ax aJ;obtain⟨v,H',af,m',bl,bp,bQ⟩:=fJ H (aJ.enter (bf:=[]) (bM:=m) (.refl _) trivial);obtain⟨cU,gb⟩:=aJ.leave (bf:=[]) (bM:=m) (.refl _) bp;obtain⟨bn,s1,s2⟩:=ax.put (dst:=some d) aP v;obtain⟨aS,pi,E',h2,q0,aa,ae,aF,bo⟩:=h v m' af gb bQ bn H' s2 cU;refine⟨fun cP cz H1=>k8 f bT H (.returned v,H') cP cz H1,fun cP cz H1 r q=>?_,aS,pi,E',h2,q0,fun fa q=>?_,ae,aF,bo⟩
 ·simp only at q;unfold k8 at q;split at q
  ·rename_i e;rw[e.2.2];exact cW _
  ·cases q
 ·have hD:fa f bT H=some (.returned v,H'):=q f bT H _ (by simp only;unfold k8;rw[aE ⟨rfl,rfl,rfl⟩]);show jy ops i (fun o=>kr (dL K.P _ _ ops bc) (one K.P _ _ ops S H o))=_;unfold jy;rw[ao];show kr (dL K.P _ _ ops bc) (one K.P _ _ ops S H o)=_;unfold one fD;rw[aq];show kr (dL K.P _ _ ops bc) (pP S H o.dst (cJ K.P _ _ S H o))=_;have he:cJ K.P (hM K.Q fa) (gH K.Q gW fa).aR S H o=some (.val v H'):=by
   unfold cJ fe;simp only[ar];show kU K.P _ c=_;unfold kU;rw[aC];show n9 K.P _ _ S.T H c=_;unfold n9;rw[n8 ax H a1];simp only[aC];rw[dy ax H U];simp only
   show(match l7 K.P H (.func f) (first.toList++args) cap.toList with|some (f,bT)=>pv (hM K.Q _ f bT H)|none=>none)=_
   unfold l7;simp only
   rw[has,Dm bl hD];rfl
  rw[he,aV];show kr (dL K.P _ _ ops bc) (pg H' (S.put (some d) v))=_;rw[s1];exact aa fa
theorem ab.Ux{id:Nat}{a:Array Oper}(av:Io a.toList=none)(dq:DE a.toList=true)(au:IV a.toList=bc)(h:gy K B a.toList bc E m J fun E m J=>cX .normal E m J):ab K B (.region id a true) E m J cX:=by
 intro S H ax aJ;obtain⟨aU,_,aS,H',E',m',af,aa,ae,aF,bo⟩:=h S H ax aJ;refine⟨.normal,aS,H',E',m',af,eg.yb K.dt.rU gW aU ?_,ae,aF,bo⟩;show r2 (vw K.P (gH K.Q gW aU).call (gH K.Q gW aU).aR a.toList S H)=_;rw[Jy];unfold vw;rw[av];show r2 (xi K.P (hM K.Q aU) (gH K.Q gW aU).aR a.toList S H)=_;unfold xi;rw[dq,b7,au,aa aU (fun _ _ _ _ q=>q)];rfl
end
section
variable {K:eE}{B:dV}{o:Oper}{n:Nat}{ds:e7}{l:List (Nat×Value)}{m m':aN}{J:aH}{ey:cf->aN->aH->Prop}{d:Nat}
end
section
variable {K:eE}{B:dV}{ops:List Oper}{bc:List jF}{F:List (FuncId×List Value)}{E:cf}{m:aN}{J:aH}{bH:cf->aN->aH->Prop}
theorem a8.alp{a b:Nat}{p q:cC}{m0:aN}(au:m.Perm ((a,p)::(b,q)::m0))(h:a≠b->a8 K B ops bc F E m J bH):a8 K B ops bc F E m J bH:=fun S H ax aJ=>h (fun e=>by
 have aP:=(aJ.perm au).gd;rw[show ids ((a,p)::(b,q)::m0)=a::(p.rest++(b::(q.rest++ids m0))) from rfl,se] at aP;exact aP.1 (hT _ (by rw[e];exact .head _))) S H ax aJ
end
theorem R1(x:Int):-9223372036854775808<=IntKind.i64.wrap x/\IntKind.i64.wrap x<=9223372036854775807:=by
 unfold IntKind.wrap IntKind.signed IntKind.bits;simp only[Fy,GB];split<;>omega
open Classical
def tH (f:FuncId)(args:List Value)(bF:FrameMode)(H:aA)(r:Ending×FrameMode×aA):FuncId->List Value->Bool->FrameMode->aA->Option (Ending×FrameMode×aA):=fun cP cz b5 gh H'=>if cP=f/\cz=args/\b5=true/\gh=bF/\H'=H then some r else none
def CX{P:Program}(Q:dD P)(f:FuncId)(args:List Value)(bF:FrameMode)(H:aA)(e:Ending)(gh:FrameMode)(H':aA):Prop:=∀B w0,Q.ok B w0->uV P B w0 (tH f args bF H (e,gh,H'))
def qX {P:Program}(Q:dD P)(fu:Code->bh->aA->Option (Exit×bh×aA))(pS:FuncId->List Value->Bool->FrameMode->aA->Option (Ending×FrameMode×aA)):gZ:=
 ⟨tE Q fu,fun f args b5 bF H=>if b5=true then(match pS f args b5 bF H with
  |some (e,im,H')=>if CX Q f args bF H e im H' then some (e,im,H') else none
  |none=>none) else none⟩
section
variable {P:Program}{Q:dD P}{B:Nat->Prop}{w0:World}
theorem Sp(fu:Code->bh->aA->Option (Exit×bh×aA))(pS:FuncId->List Value->Bool->FrameMode->aA->Option (Ending×FrameMode×aA))(fU:Q.ok B w0):uV P B w0 (qX Q fu pS).body:=by
 intro f args bF H e gh H' he;unfold qX at he;simp only[EB] at he;split at he
 ·split at he
  ·rename_i ei;simp only[cp,dB] at he;obtain⟨rfl,rfl,rfl⟩:=he;exact ei B w0 fU f args bF H _ _ _ (by unfold tH;rw[aE ⟨rfl,rfl,rfl,rfl,rfl⟩])
  ·cases he
 ·cases he
theorem aaT(fu:Code->bh->aA->Option (Exit×bh×aA)){f:FuncId}{args:List Value}{bF gh:FrameMode}{H H':aA}{e:Ending}(h:CX Q f args bF H e gh H'):(qX Q fu (tH f args bF H (e,gh,H'))).body f args true bF H=some (e,gh,H'):=by
 unfold qX;simp only[EB];have:tH f args bF H (e,gh,H') f args true bF H=some (e,gh,H'):=by unfold tH;rw[aE ⟨rfl,rfl,rfl,rfl,rfl⟩]
 rw[this];simp only;rw[aE h]
def EQ:FuncId->List Value->Bool->FrameMode->aA->Option (Ending×FrameMode×aA):=fun _ _ _ _ _=>none
theorem ly.L'{fq:bg Func}(dt:to P fq){f:FuncId}{fn:Func}{c:Code}{args:List Value}{T:bg Value}{H H1 H':aA}{bn:bh}{x:Exit}{e:Ending}{bF:FrameMode}(pS:FuncId->List Value->Bool->FrameMode->aA->Option (Ending×FrameMode×aA))(aD:fq.get f=some fn)(ap:fn.body=some c)(a1:n2 args 0 (Go.Cre.blank fn.ntmps)=some T)
 (aC:eg Q c ⟨T,fn.ntmps,[],false,.run,none⟩ H x bn H1)(he:w2 P (qX Q (lG c ⟨T,fn.ntmps,[],false,.run,none⟩ H (x,bn,H1)) pS) fn (some (x,bn,H1))=some (e,bF,H')):ly Q f args H e H':=by
 intro B w0 fU f1 vd qZ aL Jz sL;unfold k8 at sL;split at sL
 ·rename_i q;obtain⟨rfl,rfl,rfl⟩:=q;simp only[cp,dB] at sL;obtain⟨rfl,rfl⟩:=sL;refine N1 (E:=qX Q (lG c ⟨T,fn.ntmps,[],false,.run,none⟩ qZ (x,bn,H1)) pS) dt (Du _ fU) (Sp _ pS fU) f1 vd qZ _ _ ?_;unfold gZ.call;simp only
  have:sB P fq (qX Q (lG c ⟨T,fn.ntmps,[],false,.run,none⟩ qZ (x,bn,H1)) pS) f1 vd false .run qZ=some (e,bF,H'):=by
   unfold sB;rw[aD];show F' P _ f1 fn vd false .run qZ fn.body=_;rw[ap];show Ga P _ fn c false .run qZ (n2 vd 0 (Go.Cre.blank fn.ntmps))=_;rw[a1];show w2 P _ fn (tE Q _ c ⟨T,fn.ntmps,[],false,.run,none⟩ qZ)=_;rw[Dt aC];exact he
  rw[this]
 ·cases sL
theorem CX.run{fq:bg Func}(dt:to P fq){f:FuncId}{fn:Func}{c:Code}{args:List Value}{T:bg Value}{H H1 H':aA}{bn:bh}{x:Exit}{e:Ending}{u bF:FrameMode}(aD:fq.get f=some fn)(ap:fn.body=some c)(a1:n2 args 0 (Go.Cre.blank fn.ntmps)=some T)
 (aC:eg Q c ⟨T,fn.ntmps,[],true,u,none⟩ H x bn H1)(he:w2 P (qX Q (lG c ⟨T,fn.ntmps,[],true,u,none⟩ H (x,bn,H1)) EQ) fn (some (x,bn,H1))=some (e,bF,H')):CX Q f args u H e bF H':=by
 intro B w0 fU f1 vd jB qZ aL RR Jz sL;unfold tH at sL;split at sL
 ·rename_i q;obtain⟨rfl,rfl,_,rfl,rfl⟩:=q;simp only[cp,dB] at sL;obtain⟨rfl,rfl,rfl⟩:=sL;refine UL (E:=qX Q (lG c ⟨T,fn.ntmps,[],true,jB,none⟩ qZ (x,bn,H1)) EQ) dt (Du _ fU) (Sp _ EQ fU) f1 vd jB qZ _ _ _ ?_;unfold sB;rw[aD];show F' P _ f1 fn vd true jB qZ fn.body=_;rw[ap];show Ga P _ fn c true jB qZ (n2 vd 0 (Go.Cre.blank fn.ntmps))=_;rw[a1];show w2 P _ fn (tE Q _ c ⟨T,fn.ntmps,[],true,jB,none⟩ qZ)=_;rw[Dt aC];exact he
 ·cases sL
end
section
variable {K:eE}{B:dV}{f:FuncId}{fn:Func}{c:Code}{args:List Value}{bf:aN}{J:aH}
def nW(K:eE)(f:FuncId)(args:List Value)(bf:aN)(J:aH)(k4:Value->aN->aH->Prop)(n1:List PanicEntry->aN->aH->Prop):Prop:=
 ∀H,Inv K.g0 (lo bf H J) J bf H->∃H' af m',Inv K.g0 (lo bf H J) af m' H'/\((∃v,ly K.Q f args H (.returned v) H'/\k4 v m' af)\/∃bK,ly K.Q f args H (.panicked bK) H'/\n1 bK m' af)
theorem nW.anH{k4:Value->aN->aH->Prop}(h:nW K f args bf J k4 fun _ _ _=>False):Fn K f args bf J k4:=fun H aJ=>by
 obtain⟨H',af,m',aa,ae⟩:=h H aJ;rcases ae with⟨v,aF,bo⟩|⟨bK,aF,bo⟩
 ·exact⟨v,H',af,m',aF,aa,bo⟩
 ·exact bo.elim
def uW(K:eE)(f:FuncId)(args:List Value)(bF:FrameMode)(bf:aN)(J:aH)(eP:FrameMode->aN->aH->Prop):Prop:=
 ∀H,Inv K.g0 (lo bf H J) J bf H->∃v gh H' af m',CX K.Q f args bF H (.returned v) gh H'/\Inv K.g0 (lo bf H J) af m' H'/\eP gh m' af
def UC(bF:FrameMode):e7:=⟨[],none,true,bF⟩
theorem Ti{fn:Func}{args:List Value}{hn:e7}(av:Nat.ble args.length fn.ntmps=true):∃T,n2 args 0 (Go.Cre.blank fn.ntmps)=some T/\∀b5 bF,hn=⟨[],none,b5,bF⟩->Sat ⟨fn.ntmps,hn,yP args 0⟩ ⟨T,fn.ntmps,[],b5,bF,none⟩:=by
 obtain⟨T,bm,a2,a3⟩:=Tj (vs:=args) (i:=0) (n:=fn.ntmps) (Tx fn.ntmps) (by have:=hV av;omega);refine⟨T,bm,fun b5 bF aV=>?_⟩;subst aV;refine⟨rfl,rfl,rfl,rfl,rfl,a2,fun t v q=>?_⟩;obtain⟨_,a7⟩:=Th q;show T.get t=some v;have:t<args.length:=by
  rcases ji t args.length with r|r
  ·exact r
  ·rw[fo (by omega)] at a7;cases a7
 rw[a3,aE (by omega)];exact a7
theorem uW.cH{bF:FrameMode}{eP:FrameMode->aN->aH->Prop}(aD:K.fq.get f=some fn)(ap:fn.body=some c)(av:Nat.ble args.length fn.ntmps=true)
 (h:∀H,ab K (lo bf H J) c ⟨fn.ntmps,UC bF,yP args 0⟩ bf J fun e E m af=>(e=.normal\/e=.ret)/\E.ds.ds=[]/\∃vs m',pq K.P E m af fn.results.toList vs/\m'.Sublist m/\eP E.ds.bF m' af):uW K f args bF bf J eP:=by
 intro H aJ;obtain⟨T,bm,a2⟩:=Ti (hn:=UC bF) av;have ax:=a2 true bF rfl;obtain⟨e,aS,H',E',m1,af,bl,bp,bQ,cU,gb,vs,m',ot,zA,zB⟩:=h H _ H ax aJ;have xF:aS.ds=[]:=bp.ds.trans gb;have aw:=ot.DM bp bQ;refine⟨qC vs,aS.bF,H',af,m',?_,bQ.sub zA,by rw[bp.bF];exact zB⟩;refine CX.run K.dt aD ap bm bl ?_;rcases cU with rfl|rfl
 ·show sq aS.bF (iM K.P _ fn aS.T aS.ds .returning H')=_;rw[xF];unfold iM;rw[aw];rfl
 ·show sq aS.bF (iM K.P _ fn aS.T aS.ds .returning H')=_;rw[xF];unfold iM;rw[aw];rfl
def LC:Exit->Option FrameMode
 |.normal=>some .returning
 |.ret=>some .returning
 |.panic bK=>some (.panicking bK)
 |_=>none
def Ends(K:eE)(fn:Func)(E:cf)(m:aN)(J:aH)(u:FrameMode)(k4:Value->aN->aH->Prop)(n1:List PanicEntry->aN->aH->Prop):Prop:=
 (u=.returning/\∃vs m',pq K.P E m J fn.results.toList vs/\m'.Sublist m/\k4 (qC vs) m' J)\/∃bK m',u=.panicking bK/\m'.Sublist m/\n1 bK m' J
def Leaves(K:eE)(fn:Func)(e:Exit)(E:cf)(m:aN)(J:aH)(k4:Value->aN->aH->Prop)(n1:List PanicEntry->aN->aH->Prop):Prop:=
 ∃u,LC e=some u/\((E.ds.ds=[]/\Ends K fn E m J u k4 n1)\/
  ∃fd cap vq bf bM,E.ds.ds=[⟨.fn (.func fd) cap,vq⟩]/\(bf++bM).Perm m/\uW K fd (vq.toList++cap.toList) u bf J fun im m' af=>J.le af->Ends K fn E (m'++bM) af (settle im) k4 n1)
theorem Ka{P:Program}{E:gZ}{e:Exit}{u:FrameMode}{S:bh}{H:aA}(h:LC e=some u):w2 P E fn (some (e,S,H))=sq S.bF (iM P E fn S.T S.ds u H):=by
 cases e<;>first|(injection h with h;subst h;rfl)|cases h
theorem Ends.DM{E:cf}{m:aN}{u:FrameMode}{k4:Value->aN->aH->Prop}{n1:List PanicEntry->aN->aH->Prop}{S:bh}{H:aA}{V:gZ}(h:Ends K fn E m J u k4 n1)(ax:Sat E S)(aJ:Inv K.g0 B J m H):
 ∃m',Inv K.g0 B J m' H/\((∃v,iM K.P V fn S.T [] u H=some (.returned v,H)/\k4 v m' J)\/∃bK,iM K.P V fn S.T [] u H=some (.panicked bK,H)/\n1 bK m' J):=by
 rcases h with⟨rfl,vs,m',aa,ae,aF⟩|⟨bK,m',rfl,ae,aF⟩
 ·refine⟨m',aJ.sub ae,.inl ⟨qC vs,?_,aF⟩⟩;unfold iM;rw[aa.DM ax aJ]
 ·exact⟨m',aJ.sub ae,.inr ⟨bK,by unfold iM;rfl,aF⟩⟩
theorem alj{e:Exit}{u:FrameMode}(h:LC e=some u):Ln u=false:=by
 cases e<;>first|(injection h with h;subst h;rfl)|cases h
theorem nW.cH{k4:Value->aN->aH->Prop}{n1:List PanicEntry->aN->aH->Prop}(aD:K.fq.get f=some fn)(ap:fn.body=some c)(av:Nat.ble args.length fn.ntmps=true)
 (h:∀H,ab K (lo bf H J) c ⟨fn.ntmps,Km,yP args 0⟩ bf J fun e E m af=>Leaves K fn e E m af k4 n1):nW K f args bf J k4 n1:=by
 intro H aJ;obtain⟨T,bm,a2⟩:=Ti (hn:=Km) av;have ax:=a2 false .run rfl;obtain⟨e,aS,H',E',m1,af,bl,bp,bQ,u,cU,gb⟩:=h H _ H ax aJ;have KI:=bp.ds;rcases gb with⟨gb,ot⟩|⟨fd,cap,vq,uz,bM,gb,ot,zA⟩
 ·obtain⟨m',aa,ae⟩:=ot.DM (V:=qX K.Q (lG c ⟨T,fn.ntmps,[],false,.run,none⟩ H (e,aS,H')) EQ) bp bQ;refine⟨H',af,m',aa,?_⟩;rcases ae with⟨v,ae,aF⟩|⟨bK,ae,aF⟩
  ·refine .inl ⟨v,ly.L' K.dt EQ aD ap bm bl (bF:=aS.bF) ?_,aF⟩;rw[Ka cU,KI,gb,ae];rfl
  ·refine .inr ⟨bK,ly.L' K.dt EQ aD ap bm bl (bF:=aS.bF) ?_,aF⟩;rw[Ka cU,KI,gb,ae];rfl
 ·obtain⟨v,gh,cv,e2,m2,d1,d2,d3⟩:=zA H' (bQ.enter ot trivial);obtain⟨zB,Qx⟩:=bQ.leave ot d2;obtain⟨m',aa,ae⟩:=(d3 Qx).DM (V:=qX K.Q (lG c ⟨T,fn.ntmps,[],false,.run,none⟩ H (e,aS,H')) (tH fd (vq.toList++cap.toList) u H' (.returned v,gh,cv))) bp zB
  have sQ:∀r,iM K.P (qX K.Q (lG c ⟨T,fn.ntmps,[],false,.run,none⟩ H (e,aS,H')) (tH fd (vq.toList++cap.toList) u H' (.returned v,gh,cv))) fn aS.T [] (settle gh) cv=some r->
   iM K.P (qX K.Q (lG c ⟨T,fn.ntmps,[],false,.run,none⟩ H (e,aS,H')) (tH fd (vq.toList++cap.toList) u H' (.returned v,gh,cv))) fn aS.T [⟨.fn (.func fd) cap,vq⟩] u H'=some r:=fun r aw=>by
   rw[iM];rw[alj cU,dT];simp only
   show(match l7 K.P H' (.func fd) vq.toList cap.toList with|none=>none|some (f,args)=>_)=_
   unfold l7;simp only
   rw[aaT _ d1];exact aw
  refine⟨cv,e2,m',aa,?_⟩;rcases ae with⟨w,ae,aF⟩|⟨bK,ae,aF⟩
  ·refine .inl ⟨w,ly.L' K.dt (tH fd (vq.toList++cap.toList) u H' (.returned v,gh,cv)) aD ap bm bl (bF:=aS.bF) ?_,aF⟩;rw[Ka cU,KI,gb,sQ _ ae];rfl
  ·refine .inr ⟨bK,ly.L' K.dt (tH fd (vq.toList++cap.toList) u H' (.returned v,gh,cv)) aD ap bm bl (bF:=aS.bF) ?_,aF⟩;rw[Ka cU,KI,gb,sQ _ ae];rfl
end
section
variable {K:eE}{B:dV}{ops rest:List Oper}{o:Oper}{n:Nat}{ds:e7}{l:List (Nat×Value)}{d:Nat}{m:aN}{J:aH}{bH:Option (List PanicEntry)->cf->aN->aH->Prop}
theorem IL{S:bh}{H:aA}{fu:Code->bh->aA->Option (Exit×bh×aA)}{aU:eH}(aq:o.guard=none):one K.P (hM K.Q aU) (gH K.Q fu aU).aR ops S H o=pP S H o.dst (cJ K.P (hM K.Q aU) (gH K.Q fu aU).aR S H o):=by
 unfold one fD;rw[aq];rfl
theorem T4{S:bh}{H H':aA}{e:Ending}{c:Call}{x:Operand}{f:FuncId}{first cap:Array Value}{args bT:List Value}(ax:Sat ⟨n,ds,l⟩ S)(ar:o.op=.call c)(aC:c.callee=.value x)(U:b6 l x=some (.func (.func f) first cap))(a1:hY l c.args.toList=some args)(has:(first.toList++args)++cap.toList=bT)(h:ly K.Q f bT H e H'):
 cJ K.P (hM K.Q (k8 f bT H (e,H'))) (gH K.Q gW (k8 f bT H (e,H'))).aR S H o=pv (some (e,H')):=by
 unfold cJ fe;simp only[ar];show kU K.P _ c=_;unfold kU;rw[aC];show n9 K.P _ _ S.T H c=_;unfold n9;rw[n8 ax H a1];simp only[aC];rw[dy ax H U];simp only
 show(match l7 K.P H (.func f) (first.toList++args) cap.toList with|some (f,bT)=>pv (hM K.Q _ f bT H)|none=>none)=_
 unfold l7;simp only
 rw[has,Dm h (by unfold k8;rw[aE ⟨rfl,rfl,rfl⟩])]
theorem W.k9{c:Call}{x:Operand}{f:FuncId}{first cap:Array Value}{args bT:List Value}{bf bM:aN}{k4:Value->aN->aH->Prop}{n1:List PanicEntry->aN->aH->Prop}
 (aq:o.guard=none)(ar:o.op=.call c)(aV:o.dst=some d)(aP:Nat.blt d n=true)(aC:c.callee=.value x)(U:b6 l x=some (.func (.func f) first cap))(a1:hY l c.args.toList=some args)(has:(first.toList++args)++cap.toList=bT)
 (au:(bf++bM).Perm m)(fJ:nW K f bT bf J k4 n1)(h:∀v m' af,J.le af->k4 v m' af->W K B ops rest ⟨n,ds,(d,v)::l⟩ (m'++bM) af bH)
 (c8:∀bK m' af,J.le af->n1 bK m' af->bH (some bK) ⟨n,ds,l⟩ (m'++bM) af):W K B ops (o::rest) ⟨n,ds,l⟩ m J bH:=by
 intro S H ax aJ;obtain⟨H',af,m',bp,bQ⟩:=fJ H (aJ.enter au trivial);obtain⟨cU,gb⟩:=aJ.leave au bp;rcases bQ with⟨v,bl,bQ⟩|⟨bK,bl,bQ⟩
 ·obtain⟨bn,s1,s2⟩:=ax.put (dst:=some d) aP v;obtain⟨p,aS,pi,E',h2,q0,cO,ed,gr,iG⟩:=h v m' af gb bQ bn H' s2 cU;refine⟨p,aS,pi,E',h2,q0,.cons gW (k8 f bT H (.returned v,H')) ?_ cO,ed,gr,iG⟩;rw[IL aq,T4 ax ar aC U a1 has bl,aV];show pg H' (S.put (some d) v)=_;rw[s1];rfl
 ·refine⟨some bK,S,H',⟨n,ds,l⟩,m'++bM,af,.iO gW (k8 f bT H (.panicked bK,H')) ?_,ax,cU,c8 bK m' af gb bQ⟩;rw[IL aq,T4 ax ar aC U a1 has bl];rfl
theorem W.panic{x:Operand}{t:TypeId}{v:Value}(aq:o.guard=none)(ar:o.op=.panic x)(U:b6 l x=some (.iface t v))(h:bH (some [{v:=.iface t v,recovered:=false}]) ⟨n,ds,l⟩ m J):W K B ops (o::rest) ⟨n,ds,l⟩ m J bH:=by
 intro S H ax aJ;refine⟨some [{v:=.iface t v,recovered:=false}],S,H,⟨n,ds,l⟩,m,J,.iO gW lq ?_,ax,aJ,h⟩;rw[IL aq];have:cJ K.P (hM K.Q lq) (gH K.Q gW lq).aR S H o=some (.iO [{v:=.iface t v,recovered:=false}] H):=by
  unfold cJ fe;simp only[ar];show IQ K.P _ (bj S.T H x)=_;rw[dy ax H U];rfl
 rw[this];rfl
theorem W.defer{c:Call}{x:Operand}{f:FuncId}{first cap:Array Value}{args:List Value}(aq:o.guard=none)(ar:o.op=.defer c)(aV:o.dst=none)(aC:c.callee=.value x)(U:b6 l x=some (.func (.func f) first cap))(a1:hY l c.args.toList=some args)(aw:ds.cK=none)
 (h:W K B ops rest ⟨n,⟨⟨.fn (.func f) cap,(first.toList++args).toArray⟩::ds.ds,ds.cK,ds.b5,ds.bF⟩,l⟩ m J bH):W K B ops (o::rest) ⟨n,ds,l⟩ m J bH:=by
 intro S H ax aJ;have KJ:Sat ⟨n,⟨⟨.fn (.func f) cap,(first.toList++args).toArray⟩::ds.ds,ds.cK,ds.b5,ds.bF⟩,l⟩ (S.Fp ⟨.fn (.func f) cap,(first.toList++args).toArray⟩):=by
  obtain⟨T,nR,e8,adV,gh,anM⟩:=S;exact⟨ax.n,(by show _::e8=_::ds.ds;rw[show e8=ds.ds from ax.ds]),ax.b5,ax.bF,ax.cK,ax.has,ax.get⟩
 obtain⟨p,aS,pi,E',h2,q0,cO,ed,gr,iG⟩:=h _ H KJ aJ;refine⟨p,aS,pi,E',h2,q0,.cons gW lq ?_ cO,ed,gr,iG⟩;rw[IL aq];have uq:S.cK=none:=ax.cK.trans aw;have:cJ K.P (hM K.Q lq) (gH K.Q gW lq).aR S H o=some (.iW ⟨.fn (.func f) cap,(first.toList++args).toArray⟩):=by
  unfold cJ fe;simp only[ar];show wm K.P _ c=_;unfold wm;simp only[uq];unfold GN;rw[n8 ax H a1];simp only[aC];rw[dy ax H U];rfl
 rw[this,aV];show Ca S H none _=_;unfold Ca;rw[uq];rfl
def YW (ds:e7):Option (Value×FrameMode):=
 match ds.cK with
 |some _=>none
 |none=>bif ds.b5 then(match ds.bF with
  |.panicking ({v,recovered:=false,goexit:=false}::LP)=>some (v,.panicking ({v,recovered:=true}::LP))
  |m=>some (.nilIface,m))
  else some (.nilIface,ds.bF)
theorem W.recover{c:Call}{v:Value}{bF:FrameMode}(aq:o.guard=none)(ar:o.op=.call c)(aC:c.callee=.builtin .recover)(a1:c.args.toList=[])(aV:o.dst=some d)(aP:Nat.blt d n=true)(aw:YW ds=some (v,bF))
 (h:W K B ops rest ⟨n,⟨ds.ds,ds.cK,ds.b5,bF⟩,(d,v)::l⟩ m J bH):W K B ops (o::rest) ⟨n,ds,l⟩ m J bH:=by
 intro S H ax aJ;have ahj:Sat ⟨n,⟨ds.ds,ds.cK,ds.b5,bF⟩,l⟩ (S.yt bF):=by
  obtain⟨T,nR,e8,adV,gh,anM⟩:=S;exact⟨ax.n,ax.ds,ax.b5,rfl,ax.cK,ax.has,ax.get⟩
 obtain⟨bn,s1,s2⟩:=ahj.put (dst:=some d) aP v;obtain⟨p,aS,pi,E',h2,q0,cO,ed,gr,iG⟩:=h bn H s2 aJ;refine⟨p,aS,pi,E',h2,q0,.cons gW lq ?_ cO,ed,gr,iG⟩;rw[IL aq];have:cJ K.P (hM K.Q lq) (gH K.Q gW lq).aR S H o=some .Cp:=by
  unfold cJ fe;simp only[ar];show kU K.P _ c=_;unfold kU;rw[aC];simp only
  unfold pw;rw[a1];rfl
 rw[this,aV];show IK S H (some d) (r1 S)=_;have e:r1 S=some (v,bF):=by
  unfold r1;unfold YW at aw;rw[ax.cK,ax.b5,ax.bF];exact aw
 rw[e];show mo (S.yt bF) (some d) v H=_;show pg H ((S.yt bF).put (some d) v)=_;rw[s1];rfl
end
section
variable {g0:Nat}{B:dV}{H:aA}{J:aH}{m m':aN}
theorem Inv.anB{a z:Nat}{full:List Value}{e:TypeId}{rest:List Nat}(h:Inv g0 B J ((a,.opn full e rest z)::m) H)(cells':List Value):
 ∃f H1 cv l3,H.mem.get a=some (.row full e true f z false)/\H.bI.get f=some (a::rest)/\sX H H.ak (a::rest)=some H1/\H1.qK f [H.ak]=some cv/\H1.ak=H.ak/\cv.ak=H.ak/\cv.new (.row cells' e true f z false)=some (H.ak,l3)/\Inv g0 B J ((H.ak,.opn cells' e [] z)::m) l3:=by
 obtain⟨bl,bp,bQ,cU⟩:=h.own a _ (.head _);obtain⟨f,f1,f2,f3⟩:=bl;have cV:=h.lt (.head _);have dM:=h.gd;rw[show ids ((a,cC.opn full e rest z)::m)=a::(rest++ids m) from rfl,se,ko,JJ] at dM;obtain⟨vV,HF,Bz,O3⟩:=dM;have Er:∀x∈a::rest,x<H.ak:=fun x U=>by
  rcases e3.1 U with q|q
  ·subst q;exact cV
  ·exact(h.opn a _ (.head _) x q).1
 obtain⟨H1,aL,eK⟩:=Qy (o9:=H.ak) (a::rest) h.wf Er;obtain⟨v1,v2,v3,v4,v5,v6⟩:=Il aL;have h1:f<H1.cn:=by rw[v3];exact h.wf.DS f3
 obtain⟨cv,bk⟩:=eK.qK [H.ak] h1;obtain⟨s2,s1,wv,zY,pU⟩:=aA.Cu bk;have e4:cv.ak=H.ak:=by rw[s2,v1]
 have uk:∀x,x≠a->x∉rest->cv.mem.get x=H.mem.get x:=fun x bb a7=>by
  rw[s1,v6 x (.inl (fun q=>by rcases e3.1 q with q|q;exact bb q;exact a7 q))]
 have zj:∀g,g≠f->cv.bI.get g=H.bI.get g:=fun g q=>by rw[pU,an q,v2]
 have hm:Inv g0 B J m cv:=by
  refine⟨eK.Me h1 bk,by rw[zY,v4];exact h.bW,by rw[e4];exact h.ak,by rw[wv,v3];exact h.cn,fun x U hC=>?_,fun g aq=>?_,fun x c bz a'=>?_,h.le,h.fresh,fun x b ap=>?_,fun x b ap y ai=>by rw[e4];exact h.opn x b (.tail _ ap) y ai,Bz⟩
  ·rw[uk x (fun q=>by subst q;rcases bp with q|q;·omega
                      ·exact hC q) (fun q=>by rcases(h.opn a _ (.head _) x q).2.1 with r|r;·omega
                                              ·exact hC r)]
   exact h.eC x U hC
  ·rw[zj g (fun q=>aq (by rw[q];exact f1))];exact h.nQ g aq
  ·obtain⟨o,cP,z0,s,q⟩:=h.fw x c bz a'
   exact⟨o,cP,z0,s,by rw[uk x (fun r=>by subst r;rw[bQ] at a';cases a') (fun r=>by have:=(h.opn a _ (.head _) x r).2.2;rw[this] at a';cases a')];exact q⟩
  ·obtain⟨cN,dW,lT,pK⟩:=h.own x b (.tail _ ap)
   have iX:x∈ids m:=xW ap;refine⟨?_,dW,lT,pK⟩;refine cC.wZ cN (uk x (fun r=>vV (.inr (r▸iX))) (fun r=>O3 _ r _ iX rfl)) fun g r aq=>?_;rw[zj g (fun du=>by
        subst du;rw[f3] at aq;injection aq with aq;injection aq with aq
        exact vV (.inr (aq▸iX)))]
   exact aq
 obtain⟨l3,cG⟩:=hm.wf.new (.row cells' e true f z false);obtain⟨_,de,kC,s3,pL,lp⟩:=aA.pM cG;refine⟨f,H1,cv,l3,f2,f3,aL,bk,v1,e4,by rw[<-e4];exact cG,?_⟩;have ae:Inv g0 B J m l3:=by
  refine⟨hm.wf.QP cG,pL.trans hm.bW,by have:=hm.ak;omega,by rw[s3];exact hm.cn,fun x U hC=>?_,fun g aq=>by rw[kC];exact hm.nQ g aq,fun x c e a'=>?_,hm.le,hm.fresh,fun x b ap=>?_,fun x b ap y ai=>?_,hm.gd⟩
  ·rw[lp,an (by have:=hm.ak;omega)];exact hm.eC x U hC
  ·obtain⟨o,f,z,s,q⟩:=hm.fw x c e a'
   exact⟨o,f,z,s,by rw[lp,an (by have:=hm.wf.lt q;omega)];exact q⟩
  ·obtain⟨cN,dW,lT,pK⟩:=hm.own x b ap
   exact⟨cC.wZ cN (by rw[lp,an (by have:=hm.lt ap;omega)]) (fun f l aD=>by rw[kC];exact aD),dW,lT,pK⟩
  ·obtain⟨cN,dW,lT⟩:=hm.opn x b ap y ai
   exact⟨by omega,dW,lT⟩
 refine⟨ae.wf,ae.bW,ae.ak,ae.cn,ae.eC,ae.nQ,ae.fw,ae.le,ae.fresh,fun x b ap=>?_,fun x b ap y ai=>?_,?_⟩
 ·rcases e3.1 ap with q|q
  ·injection q with bb a7;subst bb;subst a7
   exact⟨⟨f,f1,by rw[lp,e4,aE rfl],by rw[kC,pU,aE rfl]⟩,.inl h.ak,h.QU,h.Oh⟩
  ·exact ae.own x b q
 ·rcases e3.1 ap with q|q
  ·injection q with bb a7;subst bb;subst a7;cases ai
  ·exact ae.opn x b q y ai
 ·show(H.ak::([]++ids m)).Nodup
  rw[k2,se];refine⟨fun q=>?_,Bz⟩;have:=hm.Lw q;omega
end
structure Sg (e:TypeId) (sz:Nat) (v:Value) (k:Nat) (cells:List Value) (aY:aN) (a:Nat) (full:List Value) (rest:List Nat) (z:Nat):Prop where
 v:v=.slice (some ⟨a,0,none⟩) k cZ
 aY:aY=[(a,.opn full e rest z)]
 lt:k*sz<full.length
 cut:full.take (k*sz)=cells
 z:z<=k*sz
section
variable {K:eE}{B:dV}{o:Oper}{n:Nat}{ds:e7}{l:List (Nat×Value)}{m m':aN}{J:aH}{ey:cf->aN->aH->Prop}{d:Nat}
theorem aqd{c:Call}{t hx e:TypeId}{sz k j a z:Nat}{gi cells new full:List Value}{rest:List Nat}{v x:Value}{aY m0:aN}{hn:TypeDesc}(ar:o.op=.call c)(aC:c.callee=.builtin .append)(aV:o.dst=some d)(aP:Nat.blt d n=true)(a1:hY l c.args.toList=some [v,x])(o6:c.argTypes.toList=[t,hx])(aB:j2 K.P t=some (e,sz,gi))(jO:K.P.underlying hx=some hn)(vW:∀i,hn≠.int i)
 (ay:Sg e sz v k cells aY a full rest z)(hm:m.Perm (aY++m0))(U:mR K.g0 B J m sz x j new)(cr:new.length=j*sz)(ca:new.all eM=true)(a':0<j)(av:k+j<=1000000)
 (h:∀w hF,Acc e sz w (k+j) (cells++new) hF->(z=0->z0 hF)->mH hF->ey ⟨n,ds,(d,w)::l⟩ (hF++m0) J):hq K B o ⟨n,ds,l⟩ m J ey:=by
 obtain⟨rfl,rfl,cV,D',BN⟩:=ay;obtain⟨hu,eV,fO,CS,ia,bE,b1,rfl,b2,b3,b4⟩:=yj aB;refine hq.wD aV aP fun S H ax aJ=>?_;obtain⟨gF,iP⟩:=U H aJ;have aJ:=aJ.perm hm;have h0:∀call aR,cJ K.P call aR S H o=mq (qc K.P H t (.slice (some ⟨a,0,none⟩) k cZ) x):=fun call aR=>by
  rw[y7 ar aC];unfold pw;rw[n8 ax H a1,o6];simp only[jO]
 have mc:(!(Nat.ble (k+j) 1000000&&Nat.ble fO 1000000&&Nat.beq CS.cells.toList.length sz))=false:=by
  rw[b1,b2,hz,show Nat.ble (k+j) 1000000=true from j8 av];rfl
 have qq:(!(new.all eM&&Nat.beq new.length (j*sz)))=false:=by
  rw[ca,cr,hz];rfl
 have lf:cells.length=k*sz:=by rw[<-D',iu];omega
 obtain⟨f,H1,cv,l3,g1,g2,g3,g4,g5,g6,g7,g8⟩:=Inv.anB (m:=m0) aJ (cells++new);have rC:Nat.blt a H.bW=false:=by
  cases q:Nat.blt a H.bW
  ·rfl
  ·have:a<H.bW:=by simpa[Nat.blt,u0] using q
   have:=(aJ.own _ _ (.head _)).2.2.2;have:=aJ.bW;omega
 have Lf:Nat.ble z (0+k*sz)=true:=j8 (by omega);refine⟨.slice (some ⟨H.ak,0,none⟩) (k+j) cZ,l3,(H.ak,.opn (cells++new) e [] z)::m0,J,fun call aR=>?_,g8,?_⟩
 ·rw[h0];have Pq:Nat.beq j 0=false:=by
   cases q:Nat.beq j 0
   ·rfl
   ·exact absurd (eO q) (by omega)
  have hle:Nat.beq full.length (k*sz)=false:=by
   cases q:Nat.beq full.length (k*sz)
   ·rfl
   ·exact absurd (eO q) (by omega)
  have Qe:takeN (k*sz) full=some cells:=by rw[wA (by omega),D']
  unfold qc;simp only[hu,eV,ia,bE,gF,mc,dT,iP,qq,hz,b7,g1,rC,MP,wG,Lf,lY,Pq,Qe,g2,y1,hle,Gy,g3,g5,g4,g6,g7];rfl
 ·exact h (.slice (some ⟨H.ak,0,none⟩) (k+j) cZ) [(H.ak,.opn (cells++new) e [] z)] (.opn (by rw[dP,lf,cr,nA]) (by rw[dP];omega)) (fun q bV cd bz r hS hm=>by rcases e3.1 hm with r|r;(cases r;exact q);cases r) (fun bV cd bz hm=>by rcases e3.1 hm with r|r;cases r;cases r)
theorem aaa{t e:TypeId}{x:Operand}{ao:Operand}{sz a len z:Nat}{gi full:List Value}{rest:List Nat}{b:Int}{zC:IntKind}(ar:o.op=.slice t x none (some ao) none)(U:b6 l x=some (.slice (some ⟨a,0,none⟩) len cZ))(nd:b6 l ao=some (.int zC b))(aB:j2 K.P t=some (e,sz,gi))(hm:(a,cC.opn full e rest z)∈m)(bw:0<=b)(aa:b<=len):
 dm K B o n ds l m J (.slice (some ⟨a,0,none⟩) b.toNat cZ):=by
 obtain⟨hu,eV,fO,CS,ia,bE,b1,rfl,b2,b3,b4⟩:=yj aB;intro call aR S H ax aJ;obtain⟨f,_,fV,_⟩:=(aJ.own _ _ hm).1;unfold cJ fe;simp only[ar];show qD K.P _ t (bj S.T H x) (some none) (jQ S.T H (some ao))=_;rw[dy ax H U];show qD K.P _ t _ (some none) (match bj S.T H ao with|some v=>some (some v)|none=>none)=_
 rw[dy ax H nd];have ahD:qw b len=some b.toNat:=by
  obtain⟨c,rfl⟩:∃c:Nat,b=(c:Int):=⟨b.toNat,by omega⟩;show(bif Nat.ble c len then some c else none)=_;rw[show Nat.ble c len=true from j8 (by omega)];rfl
 have:oS K.P H t (.slice (some ⟨a,0,none⟩) len cZ) none (some (.int zC b))=some (.slice (some ⟨a,0,none⟩) b.toNat cZ):=by
  unfold oS;simp only[hu,eV,hz,b7,fV,lY,dT,lE,ahD,JR,tn];rfl
 show orElse (fZ (oS K.P H t (.slice (some ⟨a,0,none⟩) len cZ) none (some (.int zC b))) H) _=_;rw[this];rfl
end
end
end Go.Opn

/- A part of the proof of TableLosses. -/
import Derived.Test.YtjbbbehaciogcaaGreatDoorCaq
import Derived.Test.YtjbbbehaciogcaaGreatDoorCal
set_option linter.unusedVariables false
set_option linter.unusedSimpArgs false
namespace Go.Opn
noncomputable section
open Go.Cre Go.RowKit
open Classical
def tV (f:FuncId)(args:List Value)(bg:FrameMode)(H:ar)(r:Ending×FrameMode×ar):FuncId->List Value->Bool->FrameMode->ar->Option (Ending×FrameMode×ar):=fun cF cb bR gV H'=>if cF=f/\cb=args/\bR=true/\gV=bg/\H'=H then some r else none
def Dt{P:Program}(Q:c7 P)(f:FuncId)(args:List Value)(bg:FrameMode)(H:ar)(e:Ending)(gV:FrameMode)(H':ar):Prop:=∀B w0,Q.ok B w0->vd P B w0 (tV f args bg H (e,gV,H'))
def pD {P:Program}(Q:c7 P)(eG:Code->aZ->ar->Option (Exit×aZ×ar))(wQ:FuncId->List Value->Bool->FrameMode->ar->Option (Ending×FrameMode×ar)):fZ:=
 ⟨rL Q eG,fun f args bR bg H=>if bR=true then(match wQ f args bR bg H with
  |some (e,iK,H')=>if Dt Q f args bg H e iK H' then some (e,iK,H') else none
  |none=>none) else none⟩
section
variable {P:Program}{Q:c7 P}{B:Nat->Prop}{w0:World}
theorem VN(eG:Code->aZ->ar->Option (Exit×aZ×ar))(wQ:FuncId->List Value->Bool->FrameMode->ar->Option (Ending×FrameMode×ar))(gK:Q.ok B w0):vd P B w0 (pD Q eG wQ).body:=by
 intro f args bg H e gV H' he;unfold pD at he;simp only[MQ] at he;split at he
 ·split at he
  ·rename_i c1;simp only[cn,dr] at he;obtain⟨rfl,rfl,rfl⟩:=he;exact c1 B w0 gK f args bg H _ _ _ (by unfold tV;rw[aV ⟨rfl,rfl,rfl,rfl,rfl⟩])
  ·cases he
 ·cases he
theorem aft(eG:Code->aZ->ar->Option (Exit×aZ×ar)){f:FuncId}{args:List Value}{bg gV:FrameMode}{H H':ar}{e:Ending}(h:Dt Q f args bg H e gV H'):(pD Q eG (tV f args bg H (e,gV,H'))).body f args true bg H=some (e,gV,H'):=by
 unfold pD;simp only[MQ];have:tV f args bg H (e,gV,H') f args true bg H=some (e,gV,H'):=by unfold tV;rw[aV ⟨rfl,rfl,rfl,rfl,rfl⟩]
 rw[this];simp only;rw[aV h]
def wI:FuncId->List Value->Bool->FrameMode->ar->Option (Ending×FrameMode×ar):=fun _ _ _ _ _=>none
theorem jV.FU{fE:a0 Func}(cI:tF P fE){f:FuncId}{fn:Func}{c:Code}{args:List Value}{T:a0 Value}{H H1 H':ar}{a4:aZ}{x:Exit}{e:Ending}{bg:FrameMode}(wQ:FuncId->List Value->Bool->FrameMode->ar->Option (Ending×FrameMode×ar))(aA:fE.get f=some fn)(ai:fn.body=some c)(aF:ou args 0 (Go.Cre.blank fn.ntmps)=some T)
 (aC:dL Q c ⟨T,fn.ntmps,[],false,.run,none⟩ H x a4 H1)(he:xx P (pD Q (kX c ⟨T,fn.ntmps,[],false,.run,none⟩ H (x,a4,H1)) wQ) fn (some (x,a4,H1))=some (e,bg,H')):jV Q f args H e H':=by
 intro B w0 gK f1 vB qH ax KA uq;unfold kW at uq;split at uq
 ·rename_i q;obtain⟨rfl,rfl,rfl⟩:=q;simp only[cn,dr] at uq;obtain⟨rfl,rfl⟩:=uq;refine QF (E:=pD Q (kX c ⟨T,fn.ntmps,[],false,.run,none⟩ qH (x,a4,H1)) wQ) cI (Ec _ gK) (VN _ wQ gK) f1 vB qH _ _ ?_;unfold fZ.call;simp only
  have:sM P fE (pD Q (kX c ⟨T,fn.ntmps,[],false,.run,none⟩ qH (x,a4,H1)) wQ) f1 vB false .run qH=some (e,bg,H'):=by
   unfold sM;rw[aA];show GL P _ f1 fn vB false .run qH fn.body=_;rw[ai];show GM P _ fn c false .run qH (ou vB 0 (Go.Cre.blank fn.ntmps))=_;rw[aF];show xx P _ fn (rL Q _ c ⟨T,fn.ntmps,[],false,.run,none⟩ qH)=_;rw[Eb aC];exact he
  rw[this]
 ·cases uq
theorem Dt.run{fE:a0 Func}(cI:tF P fE){f:FuncId}{fn:Func}{c:Code}{args:List Value}{T:a0 Value}{H H1 H':ar}{a4:aZ}{x:Exit}{e:Ending}{u bg:FrameMode}(aA:fE.get f=some fn)(ai:fn.body=some c)(aF:ou args 0 (Go.Cre.blank fn.ntmps)=some T)
 (aC:dL Q c ⟨T,fn.ntmps,[],true,u,none⟩ H x a4 H1)(he:xx P (pD Q (kX c ⟨T,fn.ntmps,[],true,u,none⟩ H (x,a4,H1)) wI) fn (some (x,a4,H1))=some (e,bg,H')):Dt Q f args u H e bg H':=by
 intro B w0 gK f1 vB u1 qH ax Vb KA uq;unfold tV at uq;split at uq
 ·rename_i q;obtain⟨rfl,rfl,_,rfl,rfl⟩:=q;simp only[cn,dr] at uq;obtain⟨rfl,rfl,rfl⟩:=uq;refine X0 (E:=pD Q (kX c ⟨T,fn.ntmps,[],true,u1,none⟩ qH (x,a4,H1)) wI) cI (Ec _ gK) (VN _ wI gK) f1 vB u1 qH _ _ _ ?_;unfold sM;rw[aA];show GL P _ f1 fn vB true u1 qH fn.body=_;rw[ai];show GM P _ fn c true u1 qH (ou vB 0 (Go.Cre.blank fn.ntmps))=_;rw[aF];show xx P _ fn (rL Q _ c ⟨T,fn.ntmps,[],true,u1,none⟩ qH)=_;rw[Eb aC];exact he
 ·cases uq
end
section
variable {K:dR}{B:dv}{f:FuncId}{fn:Func}{c:Code}{args:List Value}{bm:aN}{J:aj}
theorem mQ.atL{hj:Value->aN->aj->Prop}(h:mQ K f args bm J hj fun _ _ _=>False):Fn K f args bm J hj:=fun H aB=>by
 obtain⟨H',af,m',ad,ae⟩:=h H aB;rcases ae with⟨v,aD,a6⟩|⟨bw,aD,a6⟩
 ·exact⟨v,H',af,m',aD,ad,a6⟩
 ·exact a6.elim
def ve(K:dR)(f:FuncId)(args:List Value)(bg:FrameMode)(bm:aN)(J:aj)(dY:FrameMode->aN->aj->Prop):Prop:=
 ∀H,Inv K.g0 (iH bm H J) J bm H->∃v gV H' af m',Dt K.Q f args bg H (.returned v) gV H'/\Inv K.g0 (iH bm H J) af m' H'/\dY gV m' af
def XN(bg:FrameMode):ee:=⟨[],none,true,bg⟩
theorem Px{fn:Func}{args:List Value}{eK:ee}(aq:Nat.ble args.length fn.ntmps=true):∃T,ou args 0 (Go.Cre.blank fn.ntmps)=some T/\∀bR bg,eK=⟨[],none,bR,bg⟩->Sat ⟨fn.ntmps,eK,tK args 0⟩ ⟨T,fn.ntmps,[],bR,bg,none⟩:=by
 obtain⟨T,ba,bd,cm⟩:=Py (vs:=args) (i:=0) (n:=fn.ntmps) (PR fn.ntmps) (by have:=h3 aq;omega);refine⟨T,ba,fun bR bg au=>?_⟩;subst au;refine⟨rfl,rfl,rfl,rfl,rfl,bd,fun t v q=>?_⟩;obtain⟨_,aG⟩:=Pw q;show T.get t=some v;have:t<args.length:=by
  rcases hH t args.length with r|r
  ·exact r
  ·rw[jX (by omega)] at aG;cases aG
 rw[cm,aV (by omega)];exact aG
theorem ve.b5{bg:FrameMode}{dY:FrameMode->aN->aj->Prop}(aA:K.fE.get f=some fn)(ai:fn.body=some c)(aq:Nat.ble args.length fn.ntmps=true)
 (h:∀H,az K (iH bm H J) c ⟨fn.ntmps,XN bg,tK args 0⟩ bm J fun e E m af=>(e=.normal\/e=.ret)/\E.ds.ds=[]/\∃vs m',mX K.P E m af fn.results.toList vs/\m'.Sublist m/\dY E.ds.bg m' af):ve K f args bg bm J dY:=by
 intro H aB;obtain⟨T,ba,bd⟩:=Px (eK:=XN bg) aq;have al:=bd true bg rfl;obtain⟨e,aH,H',E',cW,af,aW,aT,bo,cu,fm,vs,m',iG,pk,qk⟩:=h H _ H al aB;have rS:aH.ds=[]:=aT.ds.trans fm;have ao:=iG.vS aT bo;refine⟨pr vs,aH.bg,H',af,m',?_,bo.sub pk,by rw[aT.bg];exact qk⟩;refine Dt.run K.cI aA ai ba aW ?_;rcases cu with rfl|rfl
 ·show qM aH.bg (hL K.P _ fn aH.T aH.ds .returning H')=_;rw[rS];unfold hL;rw[ao];rfl
 ·show qM aH.bg (hL K.P _ fn aH.T aH.ds .returning H')=_;rw[rS];unfold hL;rw[ao];rfl
def Jf:Exit->Option FrameMode
 |.normal=>some .returning
 |.ret=>some .returning
 |.panic bw=>some (.panicking bw)
 |_=>none
def Ends(K:dR)(fn:Func)(E:ca)(m:aN)(J:aj)(u:FrameMode)(hj:Value->aN->aj->Prop)(fQ:List PanicEntry->aN->aj->Prop):Prop:=
 (u=.returning/\∃vs m',mX K.P E m J fn.results.toList vs/\m'.Sublist m/\hj (pr vs) m' J)\/∃bw m',u=.panicking bw/\m'.Sublist m/\fQ bw m' J
def Leaves(K:dR)(fn:Func)(e:Exit)(E:ca)(m:aN)(J:aj)(hj:Value->aN->aj->Prop)(fQ:List PanicEntry->aN->aj->Prop):Prop:=
 ∃u,Jf e=some u/\((E.ds.ds=[]/\Ends K fn E m J u hj fQ)\/
  ∃fd cap vO bm cN,E.ds.ds=[⟨.fn (.func fd) cap,vO⟩]/\(bm++cN).Perm m/\ve K fd (vO.toList++cap.toList) u bm J fun iK m' af=>J.le af->Ends K fn E (m'++cN) af (settle iK) hj fQ)
theorem D5{P:Program}{E:fZ}{e:Exit}{u:FrameMode}{S:aZ}{H:ar}(h:Jf e=some u):xx P E fn (some (e,S,H))=qM S.bg (hL P E fn S.T S.ds u H):=by
 cases e<;>first|(injection h with h;subst h;rfl)|cases h
theorem Ends.vS{E:ca}{m:aN}{u:FrameMode}{hj:Value->aN->aj->Prop}{fQ:List PanicEntry->aN->aj->Prop}{S:aZ}{H:ar}{V:fZ}(h:Ends K fn E m J u hj fQ)(al:Sat E S)(aB:Inv K.g0 B J m H):
 ∃m',Inv K.g0 B J m' H/\((∃v,hL K.P V fn S.T [] u H=some (.returned v,H)/\hj v m' J)\/∃bw,hL K.P V fn S.T [] u H=some (.panicked bw,H)/\fQ bw m' J):=by
 rcases h with⟨rfl,vs,m',ad,ae,aD⟩|⟨bw,m',rfl,ae,aD⟩
 ·refine⟨m',aB.sub ae,.inl ⟨pr vs,?_,aD⟩⟩;unfold hL;rw[ad.vS al aB]
 ·exact⟨m',aB.sub ae,.inr ⟨bw,by unfold hL;rfl,aD⟩⟩
theorem abF{e:Exit}{u:FrameMode}(h:Jf e=some u):IX u=false:=by
 cases e<;>first|(injection h with h;subst h;rfl)|cases h
theorem mQ.b5{hj:Value->aN->aj->Prop}{fQ:List PanicEntry->aN->aj->Prop}(aA:K.fE.get f=some fn)(ai:fn.body=some c)(aq:Nat.ble args.length fn.ntmps=true)
 (h:∀H,az K (iH bm H J) c ⟨fn.ntmps,zJ,tK args 0⟩ bm J fun e E m af=>Leaves K fn e E m af hj fQ):mQ K f args bm J hj fQ:=by
 intro H aB;obtain⟨T,ba,bd⟩:=Px (eK:=zJ) aq;have al:=bd false .run rfl;obtain⟨e,aH,H',E',cW,af,aW,aT,bo,u,cu,fm⟩:=h H _ H al aB;have L6:=aT.ds;rcases fm with⟨fm,iG⟩|⟨fd,cap,vO,aAp,cN,fm,iG,pk⟩
 ·obtain⟨m',ad,ae⟩:=iG.vS (V:=pD K.Q (kX c ⟨T,fn.ntmps,[],false,.run,none⟩ H (e,aH,H')) wI) aT bo;refine⟨H',af,m',ad,?_⟩;rcases ae with⟨v,ae,aD⟩|⟨bw,ae,aD⟩
  ·refine .inl ⟨v,jV.FU K.cI wI aA ai ba aW (bg:=aH.bg) ?_,aD⟩;rw[D5 cu,L6,fm,ae];rfl
  ·refine .inr ⟨bw,jV.FU K.cI wI aA ai ba aW (bg:=aH.bg) ?_,aD⟩;rw[D5 cu,L6,fm,ae];rfl
 ·obtain⟨v,gV,bW,cZ,eE,d1,d2,d3⟩:=pk H' (bo.enter iG trivial);obtain⟨qk,To⟩:=bo.leave iG d2;obtain⟨m',ad,ae⟩:=(d3 To).vS (V:=pD K.Q (kX c ⟨T,fn.ntmps,[],false,.run,none⟩ H (e,aH,H')) (tV fd (vO.toList++cap.toList) u H' (.returned v,gV,bW))) aT qk
  have nt:∀r,hL K.P (pD K.Q (kX c ⟨T,fn.ntmps,[],false,.run,none⟩ H (e,aH,H')) (tV fd (vO.toList++cap.toList) u H' (.returned v,gV,bW))) fn aH.T [] (settle gV) bW=some r->
   hL K.P (pD K.Q (kX c ⟨T,fn.ntmps,[],false,.run,none⟩ H (e,aH,H')) (tV fd (vO.toList++cap.toList) u H' (.returned v,gV,bW))) fn aH.T [⟨.fn (.func fd) cap,vO⟩] u H'=some r:=fun r ao=>by
   rw[hL];rw[abF cu,dK];simp only
   show(match kY K.P H' (.func fd) vO.toList cap.toList with|none=>none|some (f,args)=>_)=_
   unfold kY;simp only
   rw[aft _ d1];exact ao
  refine⟨bW,cZ,m',ad,?_⟩;rcases ae with⟨w,ae,aD⟩|⟨bw,ae,aD⟩
  ·refine .inl ⟨w,jV.FU K.cI (tV fd (vO.toList++cap.toList) u H' (.returned v,gV,bW)) aA ai ba aW (bg:=aH.bg) ?_,aD⟩;rw[D5 cu,L6,fm,nt _ ae];rfl
  ·refine .inr ⟨bw,jV.FU K.cI (tV fd (vO.toList++cap.toList) u H' (.returned v,gV,bW)) aA ai ba aW (bg:=aH.bg) ?_,aD⟩;rw[D5 cu,L6,fm,nt _ ae];rfl
end
section
variable {K:dR}{B:dv}{ops rest:List Oper}{o:Oper}{n:Nat}{ds:ee}{l:List (Nat×Value)}{d:Nat}{m:aN}{J:aj}{bq:Option (List PanicEntry)->ca->aN->aj->Prop}
theorem CS{S:aZ}{H:ar}{eG:Code->aZ->ar->Option (Exit×aZ×ar)}{cE:eI}(ay:o.guard=none):one K.P (hJ K.Q cE) (fN K.Q eG cE).aJ ops S H o=oP S H o.dst (cz K.P (hJ K.Q cE) (fN K.Q eG cE).aJ S H o):=by
 unfold one fT;rw[ay];rfl
theorem Xh{S:aZ}{H H':ar}{e:Ending}{c:Call}{x:Operand}{f:FuncId}{first cap:Array Value}{args bO:List Value}(al:Sat ⟨n,ds,l⟩ S)(ah:o.op=.call c)(aC:c.callee=.value x)(aa:bJ l x=some (.func (.func f) first cap))(aF:h4 l c.args.toList=some args)(has:(first.toList++args)++cap.toList=bO)(h:jV K.Q f bO H e H'):
 cz K.P (hJ K.Q (kW f bO H (e,H'))) (fN K.Q gQ (kW f bO H (e,H'))).aJ S H o=oA (some (e,H')):=by
 unfold cz e4;simp only[ah];show kN K.P _ c=_;unfold kN;rw[aC];show nm K.P _ _ S.T H c=_;unfold nm;rw[oB al H aF];simp only[aC];rw[de al H aa];simp only
 show(match kY K.P H (.func f) (first.toList++args) cap.toList with|some (f,bO)=>oA (hJ K.Q _ f bO H)|none=>none)=_
 unfold kY;simp only
 rw[has,Bi h (by unfold kW;rw[aV ⟨rfl,rfl,rfl⟩])]
theorem W.P8{c:Call}{x:Operand}{f:FuncId}{first cap:Array Value}{args bO:List Value}{bm cN:aN}{hj:Value->aN->aj->Prop}{fQ:List PanicEntry->aN->aj->Prop}
 (ay:o.guard=none)(ah:o.op=.call c)(au:o.dst=some d)(aE:Nat.blt d n=true)(aC:c.callee=.value x)(aa:bJ l x=some (.func (.func f) first cap))(aF:h4 l c.args.toList=some args)(has:(first.toList++args)++cap.toList=bO)
 (aw:(bm++cN).Perm m)(bM:mQ K f bO bm J hj fQ)(h:∀v m' af,J.le af->hj v m' af->W K B ops rest ⟨n,ds,(d,v)::l⟩ (m'++cN) af bq)
 (bQ:∀bw m' af,J.le af->fQ bw m' af->bq (some bw) ⟨n,ds,l⟩ (m'++cN) af):W K B ops (o::rest) ⟨n,ds,l⟩ m J bq:=by
 intro S H al aB;obtain⟨H',af,m',aT,bo⟩:=bM H (aB.enter aw trivial);obtain⟨cu,fm⟩:=aB.leave aw aT;rcases bo with⟨v,aW,bo⟩|⟨bw,aW,bo⟩
 ·obtain⟨a4,s1,s2⟩:=al.put (dst:=some d) aE v;obtain⟨p,aH,oX,E',mE,pJ,dq,c2,fp,ij⟩:=h v m' af fm bo a4 H' s2 cu;refine⟨p,aH,oX,E',mE,pJ,.cons gQ (kW f bO H (.returned v,H')) ?_ dq,c2,fp,ij⟩;rw[CS ay,Xh al ah aC aa aF has aW,au];show ob H' (S.put (some d) v)=_;rw[s1];rfl
 ·refine⟨some bw,S,H',⟨n,ds,l⟩,m'++cN,af,.gx gQ (kW f bO H (.panicked bw,H')) ?_,al,cu,bQ bw m' af fm bo⟩;rw[CS ay,Xh al ah aC aa aF has aW];rfl
theorem W.panic{x:Operand}{t:TypeId}{v:Value}(ay:o.guard=none)(ah:o.op=.panic x)(aa:bJ l x=some (.iface t v))(h:bq (some [{v:=.iface t v,recovered:=false}]) ⟨n,ds,l⟩ m J):W K B ops (o::rest) ⟨n,ds,l⟩ m J bq:=by
 intro S H al aB;refine⟨some [{v:=.iface t v,recovered:=false}],S,H,⟨n,ds,l⟩,m,J,.gx gQ kL ?_,al,aB,h⟩;rw[CS ay];have:cz K.P (hJ K.Q kL) (fN K.Q gQ kL).aJ S H o=some (.gx [{v:=.iface t v,recovered:=false}] H):=by
  unfold cz e4;simp only[ah];show JE K.P _ (a3 S.T H x)=_;rw[de al H aa];rfl
 rw[this];rfl
theorem W.defer{c:Call}{x:Operand}{f:FuncId}{first cap:Array Value}{args:List Value}(ay:o.guard=none)(ah:o.op=.defer c)(au:o.dst=none)(aC:c.callee=.value x)(aa:bJ l x=some (.func (.func f) first cap))(aF:h4 l c.args.toList=some args)(ao:ds.cr=none)
 (h:W K B ops rest ⟨n,⟨⟨.fn (.func f) cap,(first.toList++args).toArray⟩::ds.ds,ds.cr,ds.bR,ds.bg⟩,l⟩ m J bq):W K B ops (o::rest) ⟨n,ds,l⟩ m J bq:=by
 intro S H al aB;have BS:Sat ⟨n,⟨⟨.fn (.func f) cap,(first.toList++args).toArray⟩::ds.ds,ds.cr,ds.bR,ds.bg⟩,l⟩ (S.F9 ⟨.fn (.func f) cap,(first.toList++args).toArray⟩):=by
  obtain⟨T,po,fg,ai3,gV,atP⟩:=S;exact⟨al.n,(by show _::fg=_::ds.ds;rw[show fg=ds.ds from al.ds]),al.bR,al.bg,al.cr,al.has,al.get⟩
 obtain⟨p,aH,oX,E',mE,pJ,dq,c2,fp,ij⟩:=h _ H BS aB;refine⟨p,aH,oX,E',mE,pJ,.cons gQ kL ?_ dq,c2,fp,ij⟩;rw[CS ay];have uC:S.cr=none:=al.cr.trans ao;have:cz K.P (hJ K.Q kL) (fN K.Q gQ kL).aJ S H o=some (.gP ⟨.fn (.func f) cap,(first.toList++args).toArray⟩):=by
  unfold cz e4;simp only[ah];show wO K.P _ c=_;unfold wO;simp only[uC];unfold Hs;rw[oB al H aF];simp only[aC];rw[de al H aa];rfl
 rw[this,au];show Ar S H none _=_;unfold Ar;rw[uC];rfl
def ac3 (ds:ee):Option (Value×FrameMode):=
 match ds.cr with
 |some _=>none
 |none=>bif ds.bR then(match ds.bg with
  |.panicking ({v,recovered:=false,goexit:=false}::Nz)=>some (v,.panicking ({v,recovered:=true}::Nz))
  |m=>some (.nilIface,m))
  else some (.nilIface,ds.bg)
theorem W.recover{c:Call}{v:Value}{bg:FrameMode}(ay:o.guard=none)(ah:o.op=.call c)(aC:c.callee=.builtin .recover)(aF:c.args.toList=[])(au:o.dst=some d)(aE:Nat.blt d n=true)(ao:ac3 ds=some (v,bg))
 (h:W K B ops rest ⟨n,⟨ds.ds,ds.cr,ds.bR,bg⟩,(d,v)::l⟩ m J bq):W K B ops (o::rest) ⟨n,ds,l⟩ m J bq:=by
 intro S H al aB;have sU:Sat ⟨n,⟨ds.ds,ds.cr,ds.bR,bg⟩,l⟩ (S.zc bg):=by
  obtain⟨T,po,fg,ai3,gV,atP⟩:=S;exact⟨al.n,al.ds,al.bR,rfl,al.cr,al.has,al.get⟩
 obtain⟨a4,s1,s2⟩:=sU.put (dst:=some d) aE v;obtain⟨p,aH,oX,E',mE,pJ,dq,c2,fp,ij⟩:=h a4 H s2 aB;refine⟨p,aH,oX,E',mE,pJ,.cons gQ kL ?_ dq,c2,fp,ij⟩;rw[CS ay];have:cz K.P (hJ K.Q kL) (fN K.Q gQ kL).aJ S H o=some .Av:=by
  unfold cz e4;simp only[ah];show kN K.P _ c=_;unfold kN;rw[aC];simp only
  unfold qS;rw[aF];rfl
 rw[this,au];show FI S H (some d) (qx S)=_;have e:qx S=some (v,bg):=by
  unfold qx;unfold ac3 at ao;rw[al.cr,al.bR,al.bg];exact ao
 rw[e];show mh (S.zc bg) (some d) v H=_;show ob H ((S.zc bg).put (some d) v)=_;rw[s1];rfl
end
section
variable {g0:Nat}{B:dv}{H:ar}{J:aj}{m m':aN}
theorem Inv.atG{a z:Nat}{full:List Value}{e:TypeId}{rest:List Nat}(h:Inv g0 B J ((a,.opn full e rest z)::m) H)(cells':List Value):
 ∃f H1 bW fx,H.mem.get a=some (.row full e true f z false)/\H.bF.get f=some (a::rest)/\ta H H.an (a::rest)=some H1/\H1.se f [H.an]=some bW/\H1.an=H.an/\bW.an=H.an/\bW.new (.row cells' e true f z false)=some (H.an,fx)/\Inv g0 B J ((H.an,.opn cells' e [] z)::m) fx:=by
 obtain⟨aW,aT,bo,cu⟩:=h.own a _ (.head _);obtain⟨f,f1,f2,f3⟩:=aW;have cD:=h.lt (.head _);have eh:=h.gF;rw[show ids ((a,dI.opn full e rest z)::m)=a::(rest++ids m) from rfl,vn,nh,KN] at eh;obtain⟨qb,Is,Mw,RQ⟩:=eh;have lm:∀x∈a::rest,x<H.an:=fun x aa=>by
  rcases gj.1 aa with q|q
  ·subst q;exact cD
  ·exact(h.opn a _ (.head _) x q).1
 obtain⟨H1,ax,bl⟩:=aaz (qm:=H.an) (a::rest) h.wf lm;obtain⟨v1,v2,rq,v4,aeB,v6⟩:=MV ax;have jz:f<H1.cy:=by rw[rq];exact h.wf.Hz f3
 obtain⟨bW,aS⟩:=bl.se [H.an] jz;obtain⟨s2,s1,gN,mM,rk⟩:=ar.FW aS;have h6:bW.an=H.an:=by rw[s2,v1]
 have Cg:∀x,x≠a->x∉rest->bW.mem.get x=H.mem.get x:=fun x aL aG=>by
  rw[s1,v6 x (.inl (fun q=>by rcases gj.1 q with q|q;exact aL q;exact aG q))]
 have H8:∀g,g≠f->bW.bF.get g=H.bF.get g:=fun g q=>by rw[rk,aQ q,v2]
 have hm:Inv g0 B J m bW:=by
  refine⟨bl.UL jz aS,by rw[mM,v4];exact h.bL,by rw[h6];exact h.an,by rw[gN,rq];exact h.cy,fun x aa ft=>?_,fun g ay=>?_,fun x c bD aX=>?_,h.le,h.fresh,fun x b ai=>?_,fun x b ai y ap=>by rw[h6];exact h.opn x b (.tail _ ai) y ap,Mw⟩
  ·rw[Cg x (fun q=>by subst q;rcases aT with q|q;·omega
                      ·exact ft q) (fun q=>by rcases(h.opn a _ (.head _) x q).2.1 with r|r;·omega
                                              ·exact ft r)]
   exact h.gn x aa ft
  ·rw[H8 g (fun q=>ay (by rw[q];exact f1))];exact h.nB g ay
  ·obtain⟨o,cF,iA,s,q⟩:=h.ei x c bD aX
   exact⟨o,cF,iA,s,by rw[Cg x (fun r=>by subst r;rw[bo] at aX;cases aX) (fun r=>by have:=(h.opn a _ (.head _) x r).2.2;rw[this] at aX;cases aX)];exact q⟩
  ·obtain⟨ec,dA,ib,j8⟩:=h.own x b (.tail _ ai)
   have Cr:x∈ids m:=Ag ai;refine⟨?_,dA,ib,j8⟩;refine dI.xo ec (Cg x (fun r=>qb (.inr (r▸Cr))) (fun r=>RQ _ r _ Cr rfl)) fun g r ay=>?_;rw[H8 g (fun dG=>by
        subst dG;rw[f3] at ay;injection ay with ay;injection ay with ay
        exact qb (.inr (ay▸Cr)))]
   exact ay
 obtain⟨fx,cl⟩:=hm.wf.new (.row cells' e true f z false);obtain⟨_,df,ef,e9,hv,fe⟩:=ar.pp cl;refine⟨f,H1,bW,fx,f2,f3,ax,aS,v1,h6,by rw[<-h6];exact cl,?_⟩;have ae:Inv g0 B J m fx:=by
  refine⟨hm.wf.TX cl,hv.trans hm.bL,by have:=hm.an;omega,by rw[e9];exact hm.cy,fun x aa ft=>?_,fun g ay=>by rw[ef];exact hm.nB g ay,fun x c e aX=>?_,hm.le,hm.fresh,fun x b ai=>?_,fun x b ai y ap=>?_,hm.gF⟩
  ·rw[fe,aQ (by have:=hm.an;omega)];exact hm.gn x aa ft
  ·obtain⟨o,f,z,s,q⟩:=hm.ei x c e aX
   exact⟨o,f,z,s,by rw[fe,aQ (by have:=hm.wf.lt q;omega)];exact q⟩
  ·obtain⟨ec,dA,ib,j8⟩:=hm.own x b ai
   exact⟨dI.xo ec (by rw[fe,aQ (by have:=hm.lt ai;omega)]) (fun f l aA=>by rw[ef];exact aA),dA,ib,j8⟩
  ·obtain⟨ec,dA,ib⟩:=hm.opn x b ai y ap
   exact⟨by omega,dA,ib⟩
 refine⟨ae.wf,ae.bL,ae.an,ae.cy,ae.gn,ae.nB,ae.ei,ae.le,ae.fresh,fun x b ai=>?_,fun x b ai y ap=>?_,?_⟩
 ·rcases gj.1 ai with q|q
  ·injection q with aL aG;subst aL;subst aG
   exact⟨⟨f,f1,by rw[fe,h6,aV rfl],by rw[ef,rk,aV rfl]⟩,.inl h.an,h.T0,h.Q7⟩
  ·exact ae.own x b q
 ·rcases gj.1 ai with q|q
  ·injection q with aL aG;subst aL;subst aG;cases ap
  ·exact ae.opn x b q y ap
 ·show(H.an::([]++ids m)).Nodup
  rw[kj,vn];refine⟨fun q=>?_,Mw⟩;have:=hm.M3 q;omega
end
structure VD (e:TypeId) (sz:Nat) (v:Value) (k:Nat) (cells:List Value) (bc:aN) (a:Nat) (full:List Value) (rest:List Nat) (z:Nat):Prop where
 v:v=.slice (some ⟨a,0,none⟩) k cO
 bc:bc=[(a,.opn full e rest z)]
 lt:k*sz<full.length
 cut:full.take (k*sz)=cells
 z:z<=k*sz
section
variable {K:dR}{B:dv}{o:Oper}{n:Nat}{ds:ee}{l:List (Nat×Value)}{m m':aN}{J:aj}{fk:ca->aN->aj->Prop}{d:Nat}
theorem axc{c:Call}{t h1 e:TypeId}{sz k j a z:Nat}{gz cells new full:List Value}{rest:List Nat}{v x:Value}{bc fo:aN}{eK:TypeDesc}(ah:o.op=.call c)(aC:c.callee=.builtin .append)(au:o.dst=some d)(aE:Nat.blt d n=true)(aF:h4 l c.args.toList=some [v,x])(n7:c.argTypes.toList=[t,h1])(aI:mN K.P t=some (e,sz,gz))(k3:K.P.underlying h1=some eK)(wi:∀i,eK≠.int i)
 (av:VD e sz v k cells bc a full rest z)(hm:m.Perm (bc++fo))(aa:mW K.g0 B J m sz x j new)(dT:new.length=j*sz)(dX:new.all fh=true)(aX:0<j)(aq:k+j<=1000000)
 (h:∀w jM,Acc e sz w (k+j) (cells++new) jM->(z=0->iA jM)->uM jM->fk ⟨n,ds,(d,w)::l⟩ (jM++fo) J):jW K B o ⟨n,ds,l⟩ m J fk:=by
 obtain⟨rfl,rfl,cD,EH,ht⟩:=av;obtain⟨hu,eb,ju,mP,h9,aM,a',rfl,bf,bV,dx⟩:=u0 aI;refine jW.Dg au aE fun S H al aB=>?_;obtain⟨dW,fi⟩:=aa H aB;have aB:=aB.perm hm;have g7:∀call aJ,cz K.P call aJ S H o=nJ (qR K.P H t (.slice (some ⟨a,0,none⟩) k cO) x):=fun call aJ=>by
  rw[Bu ah aC];unfold qS;rw[oB al H aF,n7];simp only[k3]
 have k2:(!(Nat.ble (k+j) 1000000&&Nat.ble ju 1000000&&Nat.beq mP.cells.toList.length sz))=false:=by
  rw[a',bf,hT,show Nat.ble (k+j) 1000000=true from mo aq];rfl
 have qc:(!(new.all fh&&Nat.beq new.length (j*sz)))=false:=by
  rw[dX,dT,hT];rfl
 have m5:cells.length=k*sz:=by rw[<-EH,eA];omega
 obtain⟨f,H1,bW,fx,b4,bZ,cH,fX,gf,hc,gU,o8⟩:=Inv.atG (m:=fo) aB (cells++new);have p':Nat.blt a H.bL=false:=by
  cases q:Nat.blt a H.bL
  ·rfl
  ·have:a<H.bL:=by simpa[Nat.blt,xd] using q
   have:=(aB.own _ _ (.head _)).2.2.2;have:=aB.bL;omega
 have wx:Nat.ble z (0+k*sz)=true:=mo (by omega);refine⟨.slice (some ⟨H.an,0,none⟩) (k+j) cO,fx,(H.an,.opn (cells++new) e [] z)::fo,J,fun call aJ=>?_,o8,?_⟩
 ·rw[g7];have R9:Nat.beq j 0=false:=by
   cases q:Nat.beq j 0
   ·rfl
   ·exact absurd (ez q) (by omega)
  have hle:Nat.beq full.length (k*sz)=false:=by
   cases q:Nat.beq full.length (k*sz)
   ·rfl
   ·exact absurd (ez q) (by omega)
  have uD:takeN (k*sz) full=some cells:=by rw[y5 (by omega),EH]
  unfold qR;simp only[hu,eb,h9,aM,dW,k2,dK,fi,qc,hT,cd,b4,p',VJ,w4,wx,nM,R9,uD,bZ,zH,hle,Ha,cH,gf,fX,hc,gU];rfl
 ·exact h (.slice (some ⟨H.an,0,none⟩) (k+j) cO) [(H.an,.opn (cells++new) e [] z)] (.opn (by rw[eX,m5,dT,c6]) (by rw[eX];omega)) (fun q b0 c' bD r hF hm=>by rcases gj.1 hm with r|r;(cases r;exact q);cases r) (fun b0 c' bD hm=>by rcases gj.1 hm with r|r;cases r;cases r)
theorem Ve{t e:TypeId}{x:Operand}{ak:Operand}{sz a len z:Nat}{gz full:List Value}{rest:List Nat}{b:Int}{s':IntKind}(ah:o.op=.slice t x none (some ak) none)(aa:bJ l x=some (.slice (some ⟨a,0,none⟩) len cO))(lO:bJ l ak=some (.int s' b))(aI:mN K.P t=some (e,sz,gz))(hm:(a,dI.opn full e rest z)∈m)(aR:0<=b)(ad:b<=len):
 cY K B o n ds l m J (.slice (some ⟨a,0,none⟩) b.toNat cO):=by
 obtain⟨hu,eb,ju,mP,h9,aM,a',rfl,bf,bV,dx⟩:=u0 aI;intro call aJ S H al aB;obtain⟨f,_,mz,_⟩:=(aB.own _ _ hm).1;unfold cz e4;simp only[ah];show nF K.P _ t (a3 S.T H x) (some none) (iy S.T H (some ak))=_;rw[de al H aa];show nF K.P _ t _ (some none) (match a3 S.T H ak with|some v=>some (some v)|none=>none)=_
 rw[de al H lO];have Y8:ra b len=some b.toNat:=by
  obtain⟨c,rfl⟩:∃c:Nat,b=(c:Int):=⟨b.toNat,by omega⟩;show(bif Nat.ble c len then some c else none)=_;rw[show Nat.ble c len=true from mo (by omega)];rfl
 have:lc K.P H t (.slice (some ⟨a,0,none⟩) len cO) none (some (.int s' b))=some (.slice (some ⟨a,0,none⟩) b.toNat cO):=by
  unfold lc;simp only[hu,eb,hT,cd,mz,nM,dK,kU,Y8,jE,iD];rfl
 show orElse (g9 (lc K.P H t (.slice (some ⟨a,0,none⟩) len cO) none (some (.int s' b))) H) _=_;rw[this];rfl
end
def gX(e:TypeId)(sz:Nat)(v:Value)(k:Nat)(cells:List Value)(bc:aN):Prop:=(Acc e sz v k cells bc/\iA bc/\uM bc)\/∃a full rest,VD e sz v k cells bc a full rest 0
theorem gX.form{e:TypeId}{sz k:Nat}{v:Value}{cells:List Value}{bc:aN}(h:gX e sz v k cells bc):(∃b,v=.slice b 0 0/\k=0/\cells=[]/\bc=[])\/∃a full rest,v=.slice (some ⟨a,0,none⟩) k cO/\bc=[(a,.opn full e rest 0)]/\full.take (k*sz)=cells/\k*sz<=full.length:=by
 rcases h with⟨h,aM,aE⟩|⟨a,full,rest,ad,ae,aD,a6,eM⟩
 ·cases h with
  |nil=>exact .inl ⟨_,rfl,rfl,rfl,rfl⟩
  |jH a=>exact .inl ⟨_,rfl,rfl,rfl,rfl⟩
  |opn ad ae=>
   have:=aM _ _ _ _ _ (.head _);subst this;exact .inr ⟨_,_,_,rfl,rfl,by rw[<-ad,pM],by omega⟩
  |cap=>exact absurd (.head _) (aE _ _ _)
 ·exact .inr ⟨a,full,rest,ad,ae,a6,by omega⟩
theorem gX.of{e:TypeId}{sz k a:Nat}{full:List Value}{rest:List Nat}(hk:k*sz<=full.length):gX e sz (.slice (some ⟨a,0,none⟩) k cO) k (full.take (k*sz)) [(a,.opn full e rest 0)]:=by
 by_cases q:k*sz=full.length
 ·refine .inl ⟨?_,fun b0 c bD r z hm=>?_,fun b0 c bD hm=>?_⟩
  ·have:=Acc.opn (a:=a) (e:=e) (rest:=rest) (z:=0) q.symm (c5 _);rw[q,pM];exact this
  ·rcases gj.1 hm with q|q
   ·cases q;rfl
   ·cases q
  ·rcases gj.1 hm with q|q
   ·cases q
   ·cases q
 ·exact .inr ⟨a,full,rest,rfl,rfl,by omega,rfl,c5 _⟩
theorem gX.cut{e:TypeId}{sz k lQ:Nat}{v:Value}{cells:List Value}{bc:aN}(h:gX e sz v k cells bc)(hk:lQ<=k)(aR:0<k):∃a full rest,v=.slice (some ⟨a,0,none⟩) k cO/\bc=[(a,.opn full e rest 0)]/\gX e sz (.slice (some ⟨a,0,none⟩) lQ cO) lQ (cells.take (lQ*sz)) bc:=by
 rcases h.form with⟨b,_,q,_⟩|⟨a,full,rest,rfl,rfl,rfl,a6⟩
 ·omega
 ·have:lQ*sz<=k*sz:=fq _ hk;refine⟨a,full,rest,rfl,rfl,?_⟩;rw[su,g6 this];exact gX.of (by omega)
theorem gX.row{e:TypeId}{sz k:Nat}{v:Value}{cells:List Value}{bc:aN}(h:gX e sz v k cells bc)(aR:0<k):∃a full rest,v=.slice (some ⟨a,0,none⟩) k cO/\bc=[(a,.opn full e rest 0)]/\full.take (k*sz)=cells/\k*sz<=full.length:=by
 rcases h.form with⟨b,_,q,_⟩|q
 ·omega
 ·exact q
theorem ab9{full cells:List Value}{n i:Nat}(h:full.take n=cells)(ak:i<n):nth full i=nth cells i:=by
 rw[lT,lT,<-h,V5 ak]
section
variable {K:dR}{B:dv}{o:Oper}{n:Nat}{ds:ee}{l:List (Nat×Value)}{m m':aN}{J:aj}{fk:ca->aN->aj->Prop}{d:Nat}
theorem Ot{c:Call}{t h1 e:TypeId}{sz k j:Nat}{gz cells new:List Value}{v x:Value}{bc fo:aN}{eK:TypeDesc}(ah:o.op=.call c)(aC:c.callee=.builtin .append)(au:o.dst=some d)(aE:Nat.blt d n=true)(aF:h4 l c.args.toList=some [v,x])(n7:c.argTypes.toList=[t,h1])(aI:mN K.P t=some (e,sz,gz))(k3:K.P.underlying h1=some eK)(wi:∀i,eK≠.int i)
 (av:gX e sz v k cells bc)(hm:m.Perm (bc++fo))(aa:mW K.g0 B J m sz x j new)(dT:new.length=j*sz)(dX:new.all fh=true)(aX:0<j)(aq:k+j<=1000000)
 (h:∀w jM,gX e sz w (k+j) (cells++new) jM->fk ⟨n,ds,(d,w)::l⟩ (jM++fo) J):jW K B o ⟨n,ds,l⟩ m J fk:=by
 rcases av with⟨av,ad,ae⟩|⟨a,full,rest,av⟩
 ·exact tt ah aC au aE aF n7 aI k3 wi av hm aa dT dX aq fun w jM q r=>h w jM (.inl ⟨q,r.1 ad,r.2 ae⟩)
 ·exact axc ah aC au aE aF n7 aI k3 wi av hm aa dT dX aX aq fun w jM q dq c2=>h w jM (.inl ⟨q,dq rfl,c2⟩)
end
section
variable {K:dR}{B:dv}{o:Oper}{n:Nat}{ds:ee}{l:List (Nat×Value)}{m:aN}{J:aj}
def GK (k:IntKind)(a b:Int):BinOp->Option Value
 |.shr=>some (.int k (a.fdiv (2 ^ b.toNat)))
 |.and=>some (.int k (k.wrap (BitVec.ofInt k.bits a &&& BitVec.ofInt k.bits b).toNat))
 |_=>none
theorem awe{op:BinOp}{t dH:TypeId}{x y:Operand}{k:IntKind}{a b:Int}{v:Value}(ah:o.op=.binOp op t x y dH)(aa:bJ l x=some (.int k a))(ap:bJ l y=some (.int k b))(av:GK k a b op=some v)(ai:0<=b)(j5:b<=k.bits):cY K B o n ds l m J v:=by
 intro call aJ S H al aB;unfold cz e4;simp only[ah];show lU K.P _ op t (a3 S.T H x) (a3 S.T H y)=_;rw[de al H aa,de al H ap];show(bif mD k k then jJ H k a b _ op else _)=_;rw[Fj,cd];have key:∀(yM:BinOp),op=yM->(yM=.shr\/yM=.and)->fl K.P S.T H o=some (.val v H):=by
  intro yM e h;subst e;refine pt al (by rw[ah];rfl) aa ap rfl rfl ?_ ?_
  ·unfold execOp;simp only[ah];rw[hK al H aa,hK al H ap];rcases h with rfl|rfl
   ·simp only[GK,cn] at av;subst av;have ay:eR K.P (eqGuard .shr t x y (.int k a) (.int k b))=some ():=rfl;have kr:binOp .shr t (.int k a) (.int k b)=pure (.int k (a.fdiv (2 ^ b.toNat))):=by
     simp[binOp,Op.shift,show ¬b<0 by omega,g6 (show b.toNat<=k.bits by omega)]
    rw[eL (a:=.int k (a.fdiv (2 ^ b.toNat)))]
    ·rfl
    rw[eL ay,kr];rfl
   ·simp only[GK,cn] at av;subst av;have ay:eR K.P (eqGuard .and t x y (.int k a) (.int k b))=some ():=rfl;have kr:binOp .and t (.int k a) (.int k b)=pure (.int k (k.wrap (BitVec.ofInt k.bits a &&& BitVec.ofInt k.bits b).toNat)):=by simp[binOp,Op.intBits]
    rw[eL (a:=.int k (k.wrap (BitVec.ofInt k.bits a &&& BitVec.ofInt k.bits b).toNat))]
    ·rfl
    rw[eL ay,kr];rfl
  ·rcases h with rfl|rfl<;>simp only[GK,cn] at av<;>subst av<;>rfl
 cases op<;>simp only[GK,reduceCtorEq] at av
 ·show _=_;exact(show jJ H k a b _ .and=_ from key .and rfl (.inr rfl))
 ·exact(show jJ H k a b _ .shr=_ from key .shr rfl (.inl rfl))
end
theorem JZ{a:Nat}{q:Nat}:(a:Int).fdiv (2 ^ q)=((a / 2 ^ q:Nat):Int):=by
 rw[Int.fdiv_eq_ediv_of_nonneg _ (by exact vg (Int.pow_pos (by omega)))];simp
section
variable {K:dR}{B:dv}{n:Nat}{ds:ee}{l:List (Nat×Value)}{m m':aN}{J:aj}{cw:Exit->ca->aN->aj->Prop}{f:FuncId}{args:List Value}
theorem apR{α:Type}{m:List α}:∃j,(m++j).Perm m:=⟨[],by rw[hi]⟩
theorem az.aiO{α:Type}{c:Code}(k:Nat)(te:α->List (Nat×Value))(mem:α->aN)(ei:α->aj)(inv:α->Prop)(ad:az K B c ⟨n,ds,l⟩ m J fun e E' m' af=>match e with
 |.normal=>∃s l',inv s/\E'=⟨n,ds,l'⟩/\lv l' (te s++l.drop k)/\(∃j,(mem s++j).Perm m')/\af=ei s
 |e=>cw e E' m' af)(ae:∀s,inv s->cw .normal ⟨n,ds,te s++l.drop k⟩ (mem s) (ei s)):az K B c ⟨n,ds,l⟩ m J cw:=by
 intro S H al aB;obtain⟨e,aH,H',E',cW,af,aW,aT,bo,cu⟩:=ad S H al aB;cases e with
 |normal=>
  obtain⟨s,l',h7,rfl,fm,⟨j,iG⟩,rfl⟩:=cu;exact⟨_,aH,H',_,_,_,aW,aT.sub fm,(bo.perm iG.symm).sub (st _ _),ae s h7⟩
 |exit i=>exact⟨_,aH,H',_,_,_,aW,aT,bo,cu⟩
 |goto i=>exact⟨_,aH,H',_,_,_,aW,aT,bo,cu⟩
 |ret=>exact⟨_,aH,H',_,_,_,aW,aT,bo,cu⟩
 |panic c=>exact⟨_,aH,H',_,_,_,aW,aT,bo,cu⟩
 |outgrown=>exact⟨_,aH,H',_,_,_,aW,aT,bo,cu⟩
end
structure va where
 f:FuncId
 bO:List Value
 bm:aN
 J:aj
 dY:Value->aN->aj->Prop
 new:Bool
def va.afz(x:va)(K:dR)(f:FuncId)(bO:List Value)(H:ar)(r:Ending×ar):Prop:=
 x.f=f/\x.bO=bO/\Inv K.g0 (iH x.bm H x.J) x.J x.bm H/\∃v H' af m',r=(Ending.returned v,H')/\jV K.Q f bO H (.returned v) H'/\Inv K.g0 (iH x.bm H x.J) af m' H'/\x.dY v m' af
def bz(K:dR)(B:dv)(ops:List Oper)(a1:List jo)(F:List va)(E:ca)(m:aN)(J:aj)(bq:ca->aN->aj->Prop):Prop:=
 ∀(T:eI) (S:aZ) (H:ar),(∀f bO H1 r,T f bO H1=some r->∃x∈F,x.afz K f bO H1 r/\(x.new=true->H1.an<H.an))->Sat E S->Inv K.g0 B J m H->∃cE:eI,(∀f bO H r cv,T f bO H=some r->cE f bO H=some cv->cv=r)/\∃aH H' E' m' af,
  (∀eH:eI,(∀f args H r,cE f args H=some r->eH f args H=some r)->dM K.P (hJ K.Q eH) (fN K.Q gQ eH).aJ ops a1 S H=some (.ok aH H'))/\Sat E' aH/\Inv K.g0 B af m' H'/\bq E' m' af
section
variable {K:dR}{B:dv}{ops:List Oper}{a1:List jo}{F:List va}{VO:List (FuncId×List Value)}{E:ca}{m m':aN}{J:aj}{o:Oper}{bq:ca->aN->aj->Prop}
variable {n:Nat}{ds:ee}{l:List (Nat×Value)}{d i:Nat}
theorem ct.ace(h:bz K B ops a1 [] E m J bq):ct K B ops a1 [] E m J bq:=by
 intro S H al aB;obtain⟨cE,_,ae⟩:=h (fun _ _ _=>none) S H (fun _ _ _ _ q=>by cases q) al aB;exact⟨cE,(fun _ _ _ _ _ q=>by cases q),ae⟩
theorem bz.Nv(bM:∀x∈F,(x.f,x.bO)∈VO)(h:ct K B ops a1 VO E m J bq):bz K B ops a1 F E m J bq:=by
 intro T S H cB al aB;obtain⟨cE,ad,ae⟩:=h S H al aB;refine⟨cE,fun f bO H1 r cv aL aG=>?_,ae⟩;obtain⟨x,aa,⟨ax,aS,_⟩,_⟩:=cB f bO H1 r aL;exact absurd (by rw[<-ax,<-aS];exact bM x aa) (ad f bO H1 cv aG)
theorem bz.val{v:Value}(ak:nth ops i=some o)(ay:o.guard=none)(au:o.dst=some d)(aE:Nat.blt d n=true)(av:cY K B o n ds l m J v)(h:bz K B ops a1 F ⟨n,ds,(d,v)::l⟩ m J bq):bz K B ops (.val i::a1) F ⟨n,ds,l⟩ m J bq:=by
 intro T S H cB al aB;obtain⟨a4,s1,s2⟩:=al.put (dst:=some d) aE v;obtain⟨cE,dg,aH,H',E',m',af,ad,ae,aD,a6⟩:=h T a4 H cB s2 aB;refine⟨cE,dg,aH,H',E',m',af,fun eH q=>?_,ae,aD,a6⟩;show jP ops i (lZ K.P _ _ ops S H (dM K.P _ _ ops a1))=_;unfold jP;rw[ak];show lZ K.P _ _ ops S H (dM K.P _ _ ops a1) o=_;unfold lZ fT;rw[ay];show Dh S H o.dst (dM K.P _ _ ops a1) (cz K.P _ _ S H o)=_;rw[av _ _ S H al aB,au];show(bif Nat.beq H.an H.an then px (dM K.P _ _ ops a1) H (S.put (some d) v) else none)=_;rw[hT,cd,s1];exact ad eH q
theorem bz.b9{is:List Nat}(aC:tx K B ops n ds l m J is)(h:bz K B ops a1 F ⟨n,ds,l⟩ m J bq):bz K B ops (.b9 is::a1) F ⟨n,ds,l⟩ m J bq:=by
 intro T S H cB al aB;obtain⟨cE,dg,aH,H',E',m',af,ad,ae,aD,a6⟩:=h T S H cB al aB;refine⟨cE,dg,aH,H',E',m',af,fun eH q=>?_,ae,aD,a6⟩;show Bj K.P _ _ ops S H (dM K.P _ _ ops a1) is=_;unfold Bj;rw[tx.all al aB aC,cd];exact ad eH q
theorem bz.Xi{mk:Bool}{c:Call}{x:Operand}{f:FuncId}{first cap:Array Value}{args bO:List Value}{bm cN:aN}{dY:Value->aN->aj->Prop}
 (ak:nth ops i=some o)(ay:o.guard=none)(ah:o.op=.call c)(au:o.dst=some d)(aE:Nat.blt d n=true)(aC:c.callee=.value x)(aa:bJ l x=some (.func (.func f) first cap))(aF:h4 l c.args.toList=some args)(has:(first.toList++args)++cap.toList=bO)
 (hs:∀x∈F,x.f=f->x.bO=bO->(x.bm=bm/\x.J=J/\x.dY=dY)\/(∀H,Inv K.g0 (iH x.bm H x.J) x.J x.bm H->Inv K.g0 (iH bm H J) J bm H->False)\/x.new=true)
 (Sp:mk=true->bm=[]/\∀v m' af,dY v m' af->∃a b,(a,b)∈m')
 (aw:(bm++cN).Perm m)(e6:Al bm)(bM:Fn K f bO bm J dY)(h:∀v m' af,J.le af->dY v m' af->bz K B ops a1 (⟨f,bO,bm,J,dY,mk⟩::F) ⟨n,ds,(d,v)::l⟩ (m'++cN) af bq):bz K B ops (.bE i::a1) F ⟨n,ds,l⟩ m J bq:=by
 intro T S H cB al aB;have gJ:=aB.enter aw e6;obtain⟨v,H',af,m',aW,aT,bo,h7⟩:∃v H' af m',jV K.Q f bO H (.returned v) H'/\Inv K.g0 (iH bm H J) af m' H'/\dY v m' af/\∀r,T f bO H=some r->r=(Ending.returned v,H'):=by
  cases BU:T f bO H with
  |none=>
   obtain⟨v,H',af,m',aW,aT,bo⟩:=bM H gJ;exact⟨v,H',af,m',aW,aT,bo,fun r q=>by cases q⟩
  |some r=>
   obtain⟨x,aa,⟨ax,aS,YJ,v,H',af,m',tY,aW,aT,bo⟩,nv⟩:=cB _ _ _ _ BU;rcases hs x aa ax aS with⟨aL,aG,bt⟩|q|q
   ·rw[aL,aG] at aT;rw[bt] at bo;exact⟨v,H',af,m',aW,aT,bo,fun cv q=>by injection q with q;rw[<-q];exact tY⟩
   ·exact(q H YJ gJ).elim
   ·exact absurd (nv q) (A7 _)
 have h6:H.an<=H'.an:=aT.an;have dT:mk=true->H.an<H'.an:=fun q=>by
  obtain⟨e,he⟩:=Sp q;subst e;obtain⟨a,b,jk⟩:=he _ _ _ bo;have ah:=aT.own _ _ jk;rcases ah.2.1 with q|q
  ·exact mU q (dI.WY aT.wf ah.1)
  ·exact absurd q (OR)
 obtain⟨cu,fm⟩:=aB.leave aw aT;obtain⟨a4,s1,s2⟩:=al.put (dst:=some d) aE v
 classical
 obtain⟨cE,dg,aH,oX,E',mE,pJ,ad,ae,aD,a6⟩:=h v m' af fm bo (fun cF jf H1=>if cF=f/\jf=bO/\H1=H then some (.returned v,H') else T cF jf H1) a4 H' (fun cF jf H1 r q=>by
  split at q
  ·rename_i e;obtain⟨rfl,rfl,rfl⟩:=e;injection q with q
   exact⟨_,.head _,⟨rfl,rfl,gJ,v,H',af,m',q.symm,aW,aT,bo⟩,dT⟩
  ·obtain⟨x,aa,cv,Cd⟩:=cB _ _ _ _ q;exact⟨x,.tail _ aa,cv,fun e=>iM (Cd e) h6⟩) s2 cu
 refine⟨fun cF cb H1=>if cF=f/\cb=bO/\H1=H then some (.returned v,H') else cE cF cb H1,fun cF cb H1 r cv aL aG=>?_,aH,oX,E',mE,pJ,fun eH q=>?_,ae,aD,a6⟩
 ·dsimp only at aG
  split at aG
  ·rename_i e;obtain⟨rfl,rfl,rfl⟩:=e;injection aG with aG
   rw[h7 r aL,aG]
  ·rename_i e;exact dg cF cb H1 r cv (by rw[aQ e];exact aL) aG
 ·have hO:eH f bO H=some (.returned v,H'):=q f bO H _ (by simp only[and_self,aV]);have Cj:∀cF cb H1 r,cE cF cb H1=some r->eH cF cb H1=some r:=fun cF cb H1 r ao=>by
   by_cases e:cF=f/\cb=bO/\H1=H
   ·have:=dg cF cb H1 (.returned v,H') r (by rw[aV e]) ao;rw[this,e.1,e.2.1,e.2.2];exact hO
   ·exact q cF cb H1 r (by dsimp only;rw[aQ e];exact ao)
  show jP ops i (fun o=>lG ops (dM K.P _ _ ops a1) (one K.P _ _ ops S H o))=_;unfold jP;rw[ak];show lG ops (dM K.P _ _ ops a1) (one K.P _ _ ops S H o)=_;unfold one fT;rw[ay];show lG ops (dM K.P _ _ ops a1) (oP S H o.dst (cz K.P _ _ S H o))=_;have he:cz K.P (hJ K.Q eH) (fN K.Q gQ eH).aJ S H o=some (.val v H'):=by
   unfold cz e4;simp only[ah];show kN K.P _ c=_;unfold kN;rw[aC];show nm K.P _ _ S.T H c=_;unfold nm;rw[oB al H aF];simp only[aC];rw[de al H aa];simp only
   show(match kY K.P H (.func f) (first.toList++args) cap.toList with|some (f,bO)=>oA (hJ K.Q _ f bO H)|none=>none)=_
   unfold kY;simp only
   rw[has,Bi aW hO];rfl
  rw[he,au];show lG ops (dM K.P _ _ ops a1) (ob H' (S.put (some d) v))=_;rw[s1];exact ad eH Cj
theorem bz.call{c:Call}{x:Operand}{f:FuncId}{first cap:Array Value}{args bO:List Value}{bm cN:aN}{dY:Value->aN->aj->Prop}
 (ak:nth ops i=some o)(ay:o.guard=none)(ah:o.op=.call c)(au:o.dst=some d)(aE:Nat.blt d n=true)(aC:c.callee=.value x)(aa:bJ l x=some (.func (.func f) first cap))(aF:h4 l c.args.toList=some args)(has:(first.toList++args)++cap.toList=bO)
 (hs:∀x∈F,x.f=f->x.bO=bO->(x.bm=bm/\x.J=J/\x.dY=dY)\/(∀H,Inv K.g0 (iH x.bm H x.J) x.J x.bm H->Inv K.g0 (iH bm H J) J bm H->False)\/x.new=true)
 (aw:(bm++cN).Perm m)(e6:Al bm)(bM:Fn K f bO bm J dY)(h:∀v m' af,J.le af->dY v m' af->bz K B ops a1 (⟨f,bO,bm,J,dY,false⟩::F) ⟨n,ds,(d,v)::l⟩ (m'++cN) af bq):bz K B ops (.bE i::a1) F ⟨n,ds,l⟩ m J bq:=
 bz.Xi ak ay ah au aE aC aa aF has hs (fun q=>by cases q) aw e6 bM h
theorem bz.Xj{c:Call}{x:Operand}{f:FuncId}{first cap:Array Value}{args bO:List Value}{dY:Value->aN->aj->Prop}
 (ak:nth ops i=some o)(ay:o.guard=none)(ah:o.op=.call c)(au:o.dst=some d)(aE:Nat.blt d n=true)(aC:c.callee=.value x)(aa:bJ l x=some (.func (.func f) first cap))(aF:h4 l c.args.toList=some args)(has:(first.toList++args)++cap.toList=bO)
 (hs:∀x∈F,x.new=true)(Sp:∀v m' af,dY v m' af->∃a b,(a,b)∈m')
 (bM:Fn K f bO [] J dY)(h:∀v m' af,J.le af->dY v m' af->bz K B ops a1 (⟨f,bO,[],J,dY,true⟩::F) ⟨n,ds,(d,v)::l⟩ (m'++m) af bq):bz K B ops (.bE i::a1) F ⟨n,ds,l⟩ m J bq:=
 bz.Xi (mk:=true) (cN:=m) ak ay ah au aE aC aa aF has (fun x aa _ _=>.inr (.inr (hs x aa))) (fun _=>⟨rfl,Sp⟩) (.refl _) trivial bM h
end
section
variable {K:dR}{B:dv}{R:vv}{ops:List Oper}{a1:List jo}{m:aN}{J:aj}{o:Oper}{bq:ca->aN->aj->Prop}
variable {n:Nat}{ds:ee}{l:List (Nat×Value)}{d i g:Nat}{want b:Bool}
end
section
variable {K:dR}{B:dv}{o:Oper}{n:Nat}{ds:ee}{l:List (Nat×Value)}{m:aN}{J:aj}{fk:ca->aN->aj->Prop}{d:Nat}
end
section
variable {K:dR}{B:dv}{R:vv}{ops:List Oper}{a1:List jo}{m:aN}{J:aj}{o:Oper}{bq:ca->aN->aj->Prop}
variable {n:Nat}{ds:ee}{l:List (Nat×Value)}{d i g:Nat}{want b:Bool}
end
section
variable {K:dR}{B:dv}{o:Oper}{n:Nat}{ds:ee}{l:List (Nat×Value)}{m m':aN}{J:aj}{fk:ca->aN->aj->Prop}
end
end
end Go.Opn
set_option maxRecDepth 100000
namespace Go.Opn
noncomputable section
open Go.Cre Go.RowKit Go.Proofs
def cj(k:IntKind)(l:List Nat):List Value:=l.map fun x:Nat=>Value.int k (x:Int)
theorem r8{k:IntKind}{l:List Nat}:(cj k l).length=l.length:=j0 _
theorem Ns{k:IntKind}{l:List Nat}{i x:Nat}(h:l[i]?=some x):(cj k l)[i]?=some (.int k (x:Int)):=by unfold cj;rw[lC,h];rfl
theorem r9{k:IntKind}{l:List Nat}{i off x:Nat}(h:l[i]?=some x)(ah:off=i:=by omega):nth (cj k l) off=some (.int k (x:Int)):=by subst ah;rw[lT];exact Ns h
theorem CN{k:IntKind}{a b:List Nat}:cj k (a++b)=cj k a++cj k b:=KM
theorem mf{k:IntKind}{l:List Nat}{off:Nat}{x:Nat}(i:Nat)(h:i<l.length)(ah:off=i:=by omega):gS off (cj k l) [.int k (x:Int)]=some (cj k (l.set i x)):=by
 subst ah;exact adN (f:=fun x:Nat=>Value.int k (x:Int)) h
theorem CO{k:IntKind}(l:List Nat):(cj k l).all fh=true:=by
 induction l with
 |nil=>rfl
 |cons a l aP=>show(fh (Value.int k (a:Int))&&_)=true;unfold cj at aP;rw[aP];rfl
theorem zero_num{k:IntKind}{n:Nat}:fM [.int k 0] n=cj k (List.replicate n 0):=by rw[VB];unfold cj;rw[List.map_replicate];rfl
def c9(k:IntKind)(J:aj)(v:Value)(l:List Nat):Prop:=∃e,fR J e 1 v l.length (cj k l)
theorem c9.mono{k:IntKind}{J af:aj}(hle:J.le af){v:Value}{l:List Nat}(h:c9 k J v l):c9 k af v l:=by obtain⟨e,h⟩:=h;exact⟨e,h.mono hle⟩
theorem c9.addr{k:IntKind}{J:aj}{b:Option Addr}{n c:Nat}{l:List Nat}(h:c9 k J (.slice b n c) l):addrEq b b=true:=by obtain⟨e,h⟩:=h;exact h.addr
theorem c9.form{k:IntKind}{J:aj}{v:Value}{l:List Nat}(h:c9 k J v l):∃b c,v=.slice b l.length c:=by
 obtain⟨e,h⟩:=h;obtain⟨b,c,ad,_⟩:=fR.inv h;exact⟨b,c,ad⟩
theorem c9.ei{k:IntKind}{J:aj}{b:Option Addr}{n c:Nat}{l:List Nat}(h:c9 k J (.slice b n c) l)(aw:0<l.length):∃a off cells e,b=some ⟨a,off,none⟩/\J a=some (cells,e)/\∀i x:Nat,l[i]?=some x->nth cells (off+i*1)=some (.int k (x:Int)):=by
 obtain⟨e,h⟩:=h;obtain⟨b',c',ad,_,_,aD⟩:=fR.inv h;injection ad with a6 eM fH
 subst a6;obtain⟨a,off,cells,e,aW,aT,bo⟩:=aD aw;refine⟨a,off,cells,e,aW,aT,fun i x aa=>?_⟩;have ak:=(ff.1 aa).1;rw[ha,bo i I];exact Ns aa
theorem c9.rd{k:IntKind}{g0:Nat}{B:dv}{J:aj}{m:aN}{v:Value}{l:List Nat}(h:c9 k J v l):mW g0 B J m 1 v l.length (cj k l):=by obtain⟨e,h⟩:=h;exact h.rd
theorem c9.nil{k:IntKind}{J:aj}:c9 k J (.slice none 0 0) []:=⟨3,.nil⟩
theorem c9.row{k:IntKind}{J:aj}{a n cap:Nat}{l:List Nat}{e:TypeId}(aE:n<=l.length)(aC:n<=cap)(gm:cap<cO)(h:J a=some (cj k l,e)):c9 k J (.slice (some ⟨a,0,none⟩) n cap) (l.take n):=by
 have aq:(l.take n).length=n:=by rw[eA];omega
 refine⟨e,?_⟩;rw[aq];refine .row h ?_ ?_ (fun _=>⟨aC,gm⟩) (fun q=>absurd q I)
 ·rw[gO,ha];unfold cj;rw[DH]
 ·rw[r8,aq,ha]
end
end Go.Opn

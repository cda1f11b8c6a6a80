/- A part of the proof of SampleParts. -/
import Derived.Test.YtdbhjgpppmkagaaGreatCau
set_option linter.unusedVariables false
set_option linter.unusedSimpArgs false
namespace Go.Opn
noncomputable section
open Go.Cre Go.RowKit
open Classical
section
variable {K:eN}{B:dO}{o:Oper}{n:Nat}{ds:eQ}{l:List (Nat×Value)}{m m':aI}{J:aA}{eF:b9->aI->aA->Prop}{d:Nat}{cx:Exit->b9->aI->aA->Prop}
def wD(K:eN)(cf:Nat)(args:List Value)(a4:aI)(J:aA)(dT:Value->aI->aA->Prop):Prop:=
 ∀H,Inv K.g0 (iO a4 H J) J a4 H->∃v H' ag m' gQ bc,(hj K.Q gQ bc).aL cf args H=some (.returned v,H')/\Inv K.g0 (iO a4 H J) ag m' H'/\dT v m' ag
theorem Exec.yield{c:Call}{x:Operand}{cf:Nat}{args:List Value}{a4 b2:aI}{dT:Value->aI->aA->Prop}
 (an:o.op=.call c)(aS:o.dst=some d)(aM:Nat.blt d n=true)(av:c.callee=.value x)(I:bW l x=some (.func (.yield cf) #[] #[]))(aW:il l c.args.toList=some args)
 (au:(a4++b2).Perm m)(gj:vS a4)(fz:wD K cf args a4 J dT)(h:∀v m' ag,J.le ag->dT v m' ag->eF ⟨n,ds,(d,v)::l⟩ (m'++b2) ag):Exec K B o ⟨n,ds,l⟩ m J eF:=by
 intro S H aC aE;obtain⟨v,H',ag,m',gQ,bc,a',bd,bz⟩:=fz H (aE.enter au gj);obtain⟨cM,ha⟩:=aE.leave au bd;obtain⟨ba,s1,s2⟩:=aC.put (dst:=some d) aM v;refine⟨gQ,bc,ba,H',_,m'++b2,ag,?_,s2,cM,h v m' ag ha bz⟩;have he:cY K.P (j' K.Q bc) (hj K.Q gQ bc).aL S H o=some (.val v H'):=by
  unfold cY fU;simp only[an];show lg K.P _ c=_;unfold lg;rw[av];show nh K.P _ _ S.T H c=_;unfold nh;rw[o9 aC H aW];simp only[av];rw[ey aC H I];simp only
  show(bif (#[]:Array Value).isEmpty&&(#[]:Array Value).isEmpty then CE ((hj K.Q gQ bc).aL cf args H) else none)=_;rw[a'];rfl
 rw[he,aS];show n8 H' (S.put (some d) v)=_;rw[s1];rfl
def yQ(cf:Nat):eQ:=⟨[],some cf,false,.run⟩
def JQ:List Tmp->List Value->List (Nat×Value)->List (Nat×Value)
 |t::fN,v::vs,l=>JQ fN vs ((t,v)::l)
 |_,_,l=>l
theorem ah4{eZ:eQ}:∀{fN:List Tmp} {vs:List Value} {l:List (Nat×Value)} {T:aX Value},tk n fN=true->fN.length=vs.length->Sat ⟨n,eZ,l⟩ ⟨T,n,eZ.ds,eZ.b0,eZ.b8,eZ.cB⟩->∃dP,sS T fN vs=some dP/\Sat ⟨n,eZ,JQ fN vs l⟩ ⟨dP,n,eZ.ds,eZ.b0,eZ.b8,eZ.cB⟩:=by
 intro fN;induction fN with
 |nil=>intro vs l T _ h aC;cases vs with
  |nil=>exact⟨T,rfl,aC⟩
  |cons=>cases h
 |cons t fN aG=>
  intro vs l T ai h aC;cases vs with
  |nil=>cases h
  |cons v vs=>
   simp only[tk,fR] at ai;obtain⟨ba,s1,s2⟩:=aC.put (dst:=some t) ai.1 v;have dK:∃o3,aX.put v T t=some o3/\ba=⟨o3,n,eZ.ds,eZ.b0,eZ.b8,eZ.cB⟩:=by
    have s1:Bool.rec (motive:=fun _=>Option aQ) none (aQ.rM n eZ.ds eZ.b0 eZ.b8 eZ.cB (aX.put v T t)) (Nat.ble (Nat.succ t) n)=some ba:=s1;have kT:Nat.ble (Nat.succ t) n=true:=by simpa[Nat.blt] using ai.1
    rw[kT] at s1;cases au:aX.put v T t with
    |none=>rw[au] at s1;cases s1
    |some o3=>rw[au] at s1;injection s1 with s1;exact⟨o3,rfl,s1.symm⟩
   obtain⟨o3,t1,rfl⟩:=dK;obtain⟨dP,aD,a5⟩:=aG (l:=(t,v)::l) ai.2 (by simpa using h) s2;refine⟨dP,?_,a5⟩;simp only[sS,aX.set];rw[t1];exact aD
theorem wD.of{cf:Nat}{r:pI}{L:List (Nat×Value)}{args:List Value}{a4:aI}{dT:Value->aI->aA->Prop}(ax:r.state=.ready)(zr:(cf,.loop r)∈a4)(dK:Sat ⟨r.n,yQ cf,L⟩ ⟨r.T,r.n,[],false,.run,some cf⟩)(H6:tk r.n r.params=true)(hlen:r.params.length=args.length)
 (h:∀H,ae K (iO a4 H J) r.assign ⟨r.n,yQ cf,JQ r.params args L⟩ a4 J fun e E m cN=>e=.normal/\∃ct,dc m cf (.loop r) (.loop {r with state:=.busy}) ct/\
  ae K (iO a4 H J) r.body E ct cN fun e E m hs=>∃j dI eM l1,BR e=some j/\dc m cf (.loop dI) (.loop {dI with state:=if j.isNone then .ready else .done,pending:=j}) eM/\l1.Sublist eM/\dT (.bool j.isNone) l1 hs):wD K cf args a4 J dT:=by
 intro H aE;obtain⟨dP,dS,ho⟩:=ah4 (eZ:=yQ cf) H6 hlen dK;obtain⟨e,ba,H1,iX,ct,cN,bx,bT,dA,rfl,eM,yC,AJ⟩:=h H _ H ho aE;have bx:dM K.Q r.assign ⟨dP,r.n,[],false,.run,some cf⟩ H .normal ba H1:=bx;have b4:H1.mem.get cf=some (.loop r):=(dA.own _ _ yC.mem).1;obtain⟨bZ,iC⟩:=dA.wf.upd (.loop {r with state:=.busy}) (dA.lt yC.mem);have Eh:=dA.upd yC iC (by show bZ.mem.get cf=_;rw[(ao.pF iC).2.2.2.2,aF rfl]);obtain⟨a5,GC,gf,alH,l1,mA,d1,d2,d3,j,dI,sL,sM,d4,d5,d6,d7⟩:=AJ ba bZ bT Eh;have cg:gf.mem.get cf=some (.loop dI):=(d3.own _ _ d5.mem).1;obtain⟨jI,iU⟩:=d3.wf.upd (.loop {dI with state:=if j.isNone then .ready else .done,pending:=j}) (d3.lt d5.mem);have Ei:=d3.upd d5 iU (by show jI.mem.get cf=_;rw[(ao.pF iU).2.2.2.2,aF rfl]);have ar:H.mem.get cf=some (.loop r):=(aE.own _ _ zr).1;have ow:Nat.ble H.bq cf=true:=kK (by have:=(aE.own _ _ zr).2.2.2;have:=aE.bq;omega);refine⟨.bool j.isNone,jI,mA,sM,N2 r.assign ⟨dP,r.n,[],false,.run,some cf⟩ H (.normal,ba,H1) r.body ba bZ (a5,GC,gf),oK,?_,Ei.sub d6,d7⟩
 show(match H.mem.get cf with
  |some (.loop r)=>bif Nat.ble H.bq cf&&tk r.n r.params then Xf _ cf r H (sS r.T r.params args) else none
  |_=>none)=_
 rw[ar];simp only
 rw[ow,H6,wm,cc,dS];show Pb _ cf r.body (tt K.Q _ r.assign ⟨dP,r.n,[],false,.run,some cf⟩ H)=_;rw[KU bx (by unfold N2;rw[aF ⟨rfl,rfl,rfl⟩])];show Ge _ cf r.body ba H1=_;unfold Ge;rw[b4];simp only[ax];rw[iC];show Pc cf (tt K.Q _ r.body ba bZ)=_;rw[KU d1 (by
  unfold N2;split
  ·rename_i q;obtain⟨aZ,aR,bY⟩:=q;subst bY;rw[(ao.pF iC).2.2.2.2,aF rfl] at ar;injection ar with ar;injection ar with ar
   have:=fl pI.state ar;rw[ax] at this;cases this
  ·rw[aF ⟨rfl,rfl,rfl⟩])]
 show(match BR a5 with|some j=>Ah gf cf j|none=>none)=_
 rw[d4];show Ah gf cf j=_;unfold Ah;rw[cg];simp only[iU];rfl
def U3(cx:Exit->b9->aI->aA->Prop)(E:b9)(m:aI)(J:aA):Option Code->Prop
 |none=>cx .normal E m J
 |some .ret=>cx .ret E m J
 |some (.exit id)=>cx (.exit id) E m J
 |some _=>False
def eQ.plus(eZ:eQ)(r:Nat):eQ:=⟨{target:=.collected r,args:=#[]}::eZ.ds,eZ.cB,eZ.b0,eZ.b8⟩
theorem ae.range{f:Operand}{params:Array Tmp}{assign body:Code}{g:FuncId}{first cap:Array Value}(xu:ds.cB=none)(aw:bW l f=some (.func (.func g) first cap))
 (h:∀ik cf (T:aX Value),Sat ⟨n,yQ cf,l⟩ ⟨T,n,[],false,.run,some cf⟩->∃a4 b2 dT,(a4++b2).Perm ((cf,.loop ⟨.ready,none,T,n,params.toList,assign,body,ik⟩)::(ik,.gh)::m)/\vS a4/\
  Fn K g ((first.toList++[.func (.yield cf) #[] #[]])++cap.toList) a4 J dT/\∀v m' ag,J.le ag->dT v m' ag->∃b7 lZ,dc (m'++b2) cf (.loop b7) (.loop {b7 with state:=.exhausted}) lZ/\b7.state≠.busy/\U3 cx ⟨n,ds.plus ik,l⟩ lZ ag b7.pending):
 ae K B (.rangeFunc f params assign body) ⟨n,ds,l⟩ m J cx:=by
 intro S H aC aE;obtain⟨H1,aD⟩:=aE.wf.new (.gh (some []));have Eg:=aE.new (p:=.gh) aD (by show H1.mem.get H.af=_;rw[(ao.n1 aD).2.2.2.2.2,aF rfl]);obtain⟨bZ,a5⟩:=Eg.wf.new (.loop ⟨.ready,none,S.T,S.n,params.toList,assign,body,H.af⟩);have aM:S.n=n:=aC.n;have Eh:=Eg.new (p:=.loop ⟨.ready,none,S.T,n,params.toList,assign,body,H.af⟩) a5 (by show bZ.mem.get H1.af=_;rw[(ao.n1 a5).2.2.2.2.2,aF rfl,aM]);have aeg:Sat ⟨n,yQ H1.af,l⟩ ⟨S.T,n,[],false,.run,some H1.af⟩:=⟨rfl,rfl,rfl,rfl,rfl,aC.has,aC.get⟩;obtain⟨a4,b2,dT,dS,ho,hp,jA⟩:=h H.af H1.af S.T aeg;obtain⟨v,gf,mA,l1,aZ,aR,bY⟩:=hp bZ (Eh.enter dS ho);obtain⟨ep,gl⟩:=Eh.leave dS aR;obtain⟨b7,sL,s1,s2,h2⟩:=jA v l1 mA gl bY;have cg:gf.mem.get H1.af=some (.loop b7):=(ep.own _ _ s1.mem).1;obtain⟨jI,iU⟩:=ep.wf.upd (.loop {b7 with state:=.exhausted}) (ep.lt s1.mem);have Ei:=ep.upd s1 iU (by show jI.mem.get H1.af=_;rw[(ao.pF iU).2.2.2.2,aF rfl]);have LW:Sat ⟨n,ds.plus H.af,l⟩ {S with ds:={target:=.collected H.af,args:=#[]}::S.ds}:=⟨aC.n,by show _::_=_::_;rw[aC.ds],aC.b0,aC.b8,aC.cB,aC.has,aC.get⟩;have key:∀FQ,Oe {S with ds:={target:=.collected H.af,args:=#[]}::S.ds} b7.pending jI=some FQ->dM K.Q (.rangeFunc f params assign body) S H FQ.1 FQ.2.1 FQ.2.2:=fun FQ xr=>by
  refine dM.vX K.dC.qm jz (mL g ((first.toList++[.func (.yield H1.af) #[] #[]])++cap.toList) bZ (.returned v,gf)) ?_;show AZ K.P _ f params assign body S H=_;unfold AZ FP;rw[show S.cB=none from aC.cB.trans xu] at xr ⊢;simp only[aD,a5];rw[ey aC bZ aw];unfold Vz;simp only[mj];show Od _ H1.af ((hj K.Q _ _).body g _ false .run bZ)=_;have ai:(hj K.Q jz (mL g ((first.toList++[.func (.yield H1.af) #[] #[]])++cap.toList) bZ (.returned v,gf))).body g ((first.toList++[.func (.yield H1.af) #[] #[]])++cap.toList) false .run bZ=some (.returned v,.run,gf):=by
   unfold hj;simp only[yl,xA];rw[AK aZ (by unfold mL;rw[aF ⟨rfl,rfl,rfl⟩])]
  rw[ai];show FO _ H1.af gf=_;unfold FO;rw[cg];simp only
  cases c0:b7.state with
  |busy=>exact absurd c0 s2
  |ready=>simp only[iU];exact xr
  |done=>simp only[iU];exact xr
  |exhausted=>simp only[iU];exact xr
 cases po:b7.pending with
 |none=>rw[po] at h2 key;exact⟨_,_,_,_,_,_,key _ rfl,LW,Ei,h2⟩
 |some c=>
  rw[po] at h2 key;cases c with
  |ret=>exact⟨_,_,_,_,_,_,key _ rfl,LW,Ei,h2⟩
  |exit id=>exact⟨_,_,_,_,_,_,key _ rfl,LW,Ei,h2⟩
  |_=>exact absurd h2 id
theorem Inv.drop{g0 a:Nat}{b:cI}{c:fa}{H H1:ao}(h:Inv g0 B J m H)(au:((a,b)::m').Perm m)(aD:H.upd a c=some H1):Inv g0 B J m' H1:=by
 have h:=h.perm au.symm;obtain⟨a',bd,bz,cM⟩:=h.own a b (.head _);have cP:=h.lt (.head _);have dL:=h.gD;rw[show ids ((a,b)::m')=a::(b.rest++ids m') from rfl,r0,lL] at dL;obtain⟨b5,dr,ki,qo,m0⟩:=ao.pF aD;refine⟨h.wf.JD cP aD,qo.trans h.bq,by rw[b5];exact h.af,by rw[ki];exact h.cd,fun x I jS=>?_,fun f aw=>by rw[dr];exact h.lY f aw,fun x c e aU=>?_,h.le,h.fresh,fun x b ai=>?_,fun x b ai y ah=>by rw[b5];exact h.opn x b (.tail _ ai) y ah,(CZ _ _).nodup dL.2⟩
 ·rw[m0,aq (fun q=>by subst q;rcases bd with q|q;·omega
                      ·exact jS q)]
  exact h.e7 x I jS
 ·obtain⟨o,f,z,s,q⟩:=h.fj x c e aU
  exact⟨o,f,z,s,by rw[m0,aq (fun r=>by subst r;rw[bz] at aU;cases aU)];exact q⟩
 ·obtain⟨dZ,eJ,kV,mY⟩:=h.own x b (.tail _ ai)
  exact⟨cI.uT dZ (by rw[m0,aq (fun q=>dL.1 (by subst q;exact .inr (xz ai)))]) (fun f l aw=>by rw[dr];exact aw),eJ,kV,mY⟩
inductive Ax:List Deferred->aI->aI->Prop
 |nil (m:aI):Ax [] m m
 |Rc {r:Nat} {dl:List Deferred} {m ct eM:aI}:((r,.gh)::ct).Perm m->Ax dl ct eM->Ax ({target:=.collected r,args:=#[]}::dl) m eM
theorem Ax.run{E':fY}{fn:Func}{T:aX Value}{dl:List Deferred}{eM:aI}(h:Ax dl m eM):∀{H:ao},Inv K.g0 B J m H->∃H',Inv K.g0 B J eM H'/\∀r,jN K.P E' fn T [] .returning H'=r->jN K.P E' fn T dl .returning H=r:=by
 induction h with
 |nil m=>intro H aE;exact⟨H,aE,fun r q=>q⟩
 |@Rc r dl m ct eM au _ aG=>
  intro H aE;have jg:(r,cI.gh)∈m:=au.subset (.head _);obtain⟨a',bd,bz,cM⟩:=aE.own _ _ jg;have a':H.mem.get r=some (.gh (some [])):=a';obtain⟨H1,aD⟩:=aE.wf.upd (.gh none) (aE.lt jg);obtain⟨H',aZ,aR⟩:=aG (aE.drop au aD);refine⟨H',aZ,fun b7 ax=>?_⟩;have:=aR b7 ax;show jN K.P E' fn T ({target:=.collected r,args:=#[]}::dl) .returning H=b7;unfold jN;simp only[Iu,dN,a'];rw[show Nat.ble H.bq r=true from kK (by have:=aE.bq;omega),cc,aD];exact this
theorem Fn.agp{f:FuncId}{fn:Func}{c:Code}{args:List Value}{a4:aI}{dT:Value->aI->aA->Prop}(aw:K.gI.get f=some fn)(ai:fn.body=some c)(ay:Nat.ble args.length fn.ntmps=true)
 (h:∀H,ae K (iO a4 H J) c ⟨fn.ntmps,Hg,yx args 0⟩ a4 J fun e E m ag=>(e=.normal\/e=.ret)/\∃ct vs m',Ax E.ds.ds m ct/\pO K.P E ct ag fn.results.toList vs/\m'.Sublist ct/\dT (qt vs) m' ag):Fn K f args a4 J dT:=by
 intro H aE;obtain⟨T,bl,bF,bO⟩:=Qw (vs:=args) (i:=0) (n:=fn.ntmps) (QI fn.ntmps) (by have:=hC ay;omega);have aC:Sat ⟨fn.ntmps,Hg,yx args 0⟩ ⟨T,fn.ntmps,[],false,.run,none⟩:=by
  refine⟨rfl,rfl,rfl,rfl,rfl,bF,fun t v q=>?_⟩;obtain⟨_,aR⟩:=Qv q;show T.get t=some v;have:t<args.length:=by
   rcases jo t args.length with r|r
   ·exact r
   ·rw[hg (by omega)] at aR;cases aR
  rw[bO,aF (by omega)];exact aR
 obtain⟨e,aO,H',E',eA,ag,a',bd,bz,cM,ct,vs,m',ha,ru,BS,BT⟩:=h H _ H aC aE;obtain⟨bZ,aZ,aR⟩:=ha.run (E':=hj K.Q (o7 c ⟨T,fn.ntmps,[],false,.run,none⟩ H (e,aO,H')) oK) (fn:=fn) (T:=aO.T) bz;refine⟨qt vs,bZ,ag,m',?_,aZ.sub BS,BT⟩;refine o0.run K.dC aw ai bl a' (b8:=aO.b8) ?_;have ax:=ru.RA bd aZ;have rh:=aR (some (.returned (qt vs),bZ)) (by unfold jN;rw[ax]);rcases cM with rfl|rfl
 ·show to aO.b8 (jN K.P _ fn aO.T aO.ds .returning H')=_;rw[bd.ds,rh];rfl
 ·show to aO.b8 (jN K.P _ fn aO.T aO.ds .returning H')=_;rw[bd.ds,rh];rfl
end
theorem I4{P:Program}{t:TypeId}{cs:Array Value}{off:Nat}{v:Value}{k:IntKind}(hu:P.underlying t=some (.int k))(h:cs[off]?=some v):fI P (part t cs off)=some v:=by
 unfold part;rw[eC (a:=false)]
 ·show fI P (match cs[off]? with|some v=>pure v|none=>stuck "part: no such cell")=_
  rw[h];rfl
 ·unfold isAgg;rw[eC (AY hu)];rfl
theorem eq_int{P:Program}{t:TypeId}{k:IntKind}{n:Nat}{a b:Int}(hu:P.underlying t=some (.int k)):fI P (Op.equalIn (n+1) t (.int .i64 a) (.int .i64 b))=some (decide (a=b)):=by
 unfold Op.equalIn;rw[eC (AY hu)];show fI P (if IntKind.i64=IntKind.i64 then pure (a==b) else _)=_;rw[aF rfl];show some (a==b)=_;rw[show(a==b)=decide (a=b) from rfl]
theorem afA{P:Program}{n:Nat}{xs ys:Array Value}:∀(kb:List Field) (bJ bs:List Int) (k:Nat),kb.length=bJ.length->bJ.length=bs.length->(∀i f,kb[i]?=some f->f.name≠ "_"/\P.underlying f.type=some (.int .i64)/\f.offset=k+i)->(∀i a,bJ[i]?=some a->xs[k+i]?=some (.int .i64 a))->(∀i a,bs[i]?=some a->ys[k+i]?=some (.int .i64 a))->
 fI P (forIn kb ((none,()):Option Bool×Unit) fun f alR=>
        if f.name≠ "_" then do
           let r2 <-part f.type xs f.offset
           let C6 <-part f.type ys f.offset
           let r2 <-Op.equalIn (n+1) f.type r2 C6
           if(!r2)=true then pure (ForInStep.done (some false,()))
             else pure (ForInStep.yield (none,()))
        else pure (ForInStep.yield (none,())))=some (if bJ=bs then none else some false,()):=by
 intro kb;induction kb with
 |nil=>
  intro bJ bs k aa ab _ _ _;obtain rfl:bJ=[]:=wx (by simpa using aa.symm);obtain rfl:bs=[]:=wx (by simpa using ab.symm);rfl
 |cons f kb aG=>
  intro bJ bs k aa ab aw I ah;cases bJ with
  |nil=>cases aa
  |cons a bJ=>
   cases bs with
   |nil=>cases ab
   |cons b bs=>
    obtain⟨f1,f2,f3⟩:=aw 0 f rfl;rw[PI]
    have cp:fI P (if f.name≠ "_" then do
             let r2 <-part f.type xs f.offset
             let C6 <-part f.type ys f.offset
             let r2 <-Op.equalIn (n+1) f.type r2 C6
             if(!r2)=true then pure (ForInStep.done ((some false,()):Option Bool×Unit))
              else pure (ForInStep.yield (none,()))
            else pure (ForInStep.yield (none,())))=some (if a=b then ForInStep.yield (none,()) else ForInStep.done (some false,())):=by
     rw[aF f1,eC (I4 f2 (by rw[f3];exact I 0 a rfl)),eC (I4 f2 (by rw[f3];exact ah 0 b rfl)),eC (eq_int f2)];by_cases nO:a=b
     ·simp[nO];rfl
     ·simp[nO];rfl
    rw[eC cp];by_cases nO:a=b
    ·rw[aF nO]
     simp only
     rw[aG bJ bs (k+1) (by simpa using aa) (by simpa using ab) (fun i g ar=>by obtain⟨b4,bX,cg⟩:=aw (i+1) g ar;exact⟨b4,bX,by omega⟩) (fun i c av=>by have:=I (i+1) c av;rwa [show k+(i+1)=k+1+i by omega] at this) (fun i c av=>by have:=ah (i+1) c av;rwa [show k+(i+1)=k+1+i by omega] at this)];simp[nO]
    ·rw[aq nO]
     simp only
     rw[aq (by intro q;injection q with aZ aR;exact nO aZ)];rfl
def C' (P:Program):List Field->Nat->Bool
 |[],_=>true
 |f::kb,k=>!(f.name== "_")&&(match P.underlying f.type with|some (.int .i64)=>true|_=>false)&&Nat.beq f.offset k&&C' P kb (k+1)
def Is (P:Program)(t:TypeId):Option Nat:=match P.underlying t with
 |some (.struct fields)=>bif C' P fields.toList 0&&!P.stoodInHeld t&&!P.eqGuardType P.depth t then some fields.toList.length else none
 |_=>none
theorem Yc{P:Program}:∀{kb:List Field} {k:Nat},C' P kb k=true->∀i f,kb[i]?=some f->f.name≠ "_"/\P.underlying f.type=some (.int .i64)/\f.offset=k+i:=by
 intro kb;induction kb with
 |nil=>intro k _ i f h;simp at h
 |cons g kb aG=>
  intro k h i f aw;simp only[C',fR] at h;obtain⟨⟨⟨aa,ab⟩,aK⟩,bh⟩:=h;cases i with
  |zero=>
   simp at aw;subst aw;refine⟨by simpa using aa,?_,by have:=eK aK;omega⟩;split at ab
   ·assumption
   ·cases ab
  |succ i=>
   obtain⟨aZ,aR,bY⟩:=aG bh i f (by simpa using aw);exact⟨aZ,aR,by omega⟩
theorem aat{P:Program}{t:TypeId}{k n:Nat}{bJ bs:List Int}(aN:Is P t=some k)(aW:bJ.length=k)(ai:bs.length=k):fI P (Op.equalIn (n+1+1) t (.agg (bJ.map (Value.int .i64)).toArray) (.agg (bs.map (Value.int .i64)).toArray))=some (decide (bJ=bs))/\P.eqGuardType P.depth t=false/\∃kb,P.underlying t=some (.struct kb):=by
 unfold Is at aN;split at aN
 ·rename_i fields hu;cases av:(C' P fields.toList 0&&!P.stoodInHeld t&&!P.eqGuardType P.depth t) with
  |false=>rw[av] at aN;cases aN
  |true=>
   rw[av,cc] at aN;injection aN with aN
   simp only[fR,pJ] at av;obtain⟨⟨bx,bT⟩,dA⟩:=av;refine⟨?_,dA,fields,hu⟩;unfold Op.equalIn;rw[eC (AY hu)];simp only
   simp only[<-Array.forIn_toList];rw[eC (a:=P) rfl];rw[aq (by simp[bT])];have ay:=afA (P:=P) (n:=n) (xs:=(bJ.map (Value.int .i64)).toArray) (ys:=(bs.map (Value.int .i64)).toArray) fields.toList bJ bs 0 (by omega) (by omega) (fun i f aw=>by have:=Yc bx i f aw;exact this) (fun i a q=>by simp[q]) (fun i a q=>by simp[q]);rw[eC ay];by_cases nO:bJ=bs
   ·simp[nO];rfl
   ·simp[nO];rfl
 ·cases aN
section
variable {K:eN}{B:dO}{o:Oper}{n:Nat}{ds:eQ}{l:List (Nat×Value)}{m m':aI}{J:aA}{eF:b9->aI->aA->Prop}{d:Nat}
theorem akq{op:BinOp}{t eV:TypeId}{x y:Operand}{k:Nat}{la bs:List Int}{xs ys:Array Value}{b:Bool}(an:o.op=.binOp op t x y eV)(dU:op=.eql/\b=decide (la=bs)\/op=.neq/\b=decide (¬la=bs))(I:bW l x=some (.agg xs))(ah:bW l y=some (.agg ys))(aN:Is K.P t=some k)(aeM:xs=(la.map (Value.int .i64)).toArray)(aeO:ys=(bs.map (Value.int .i64)).toArray)(aW:la.length=k)(ai:bs.length=k):c1 K B o n ds l m J (.bool b):=by
 subst aeM;subst aeO;obtain⟨aa,ab,kb,aK⟩:=aat (n:=9998) aN aW ai;intro call aL S H aC aE;have dq:∀gd:List Int,plain (.agg (gd.map (Value.int .i64)).toArray)=true:=fun gd=>by
  show(gd.map (Value.int .i64)).all (h9 7)=true;rw[List.all_map,qK];intro i _;rfl
 unfold cY fU;simp only[an];show nr K.P _ op t (a6 S.T H x) (a6 S.T H y)=_;rw[ey aC H I,ey aC H ah];show orElse (gH K.P S.T H o) _=_;have:gH K.P S.T H o=some (.val (.bool b) H):=by
  refine uq aC (by rw[an];rfl) I ah (dq _) (dq _) ?_ rfl;unfold execOp;simp only[an];rw[lx aC H I,lx aC H ah];rw[eC (a:=.bool b)]
  ·rfl
  rcases dU with⟨rfl,rfl⟩|⟨rfl,rfl⟩
  ·rw[eC (a:=())]
   ·have ai:binOp .eql t (.agg (la.map (Value.int .i64)).toArray) (.agg (bs.map (Value.int .i64)).toArray)=(do pure (.bool (<-Op.equal t (.agg (la.map (Value.int .i64)).toArray) (.agg (bs.map (Value.int .i64)).toArray)))):=by simp[binOp]
    rw[ai,eC (s:=Op.equal t _ _) aa];rfl
   ·unfold eqGuard;simp only[lK,yl,xA];rw[eC (a:=K.P) rfl,eC (a:=K.P) rfl,ab];rfl
  ·rw[eC (a:=())]
   ·have ai:binOp .neq t (.agg (la.map (Value.int .i64)).toArray) (.agg (bs.map (Value.int .i64)).toArray)=(do pure (.bool (!(<-Op.equal t (.agg (la.map (Value.int .i64)).toArray) (.agg (bs.map (Value.int .i64)).toArray))))):=by simp[binOp]
    rw[ai,eC (s:=Op.equal t _ _) aa];show some (Value.bool (!decide (la=bs)))=_;rw[show(!decide (la=bs))=decide (¬la=bs) by simp]
   ·unfold eqGuard;simp only[lK,yl,xA];rw[eC (a:=K.P) rfl,eC (a:=K.P) rfl,ab];rfl
 rw[this];rfl
theorem Acc.fj{c:Code}{e:TypeId}{aj k:Nat}{v:Value}{cells:List Value}{aY eA:aI}{E:b9}{cx:Exit->b9->aI->aA->Prop}(h:Acc e aj v k cells aY)(hm:m=aY++eA)(aH:∀ag,J.le ag->hl ag e aj v k cells->ae K B c E eA ag cx):ae K B c E m J cx:=by
 subst hm;cases h with
 |nil=>exact aH J (aA.le.refl _) .nil
 |lu a=>exact aH J (aA.le.refl _) (.lu _ _ _ (by decide))
 |@opn a k cells rest z ay bC=>
  intro S H aC aE;obtain⟨a',bd⟩:=aE.lH (m:=eA) (x:=(cells,e)) rfl;exact aH _ bd (.row (aA.mf _ _ _) (by rw[m7,fZ (by omega)]) ay (fun q=>absurd rfl q) (fun _=>rfl)) S H aC a'
 |@cap a k C cells full el aa ab aK bh=>
  intro S H aC aE;obtain⟨a',bd⟩:=aE.lH (m:=eA) (x:=(full,el)) rfl;exact aH _ bd (.row (aA.mf _ _ _) ab (by rw[<-ab,fc,aa,k4 (mD _ aK)]) (fun _=>⟨aK,bh⟩) (fun q=>absurd q (Nat.ne_of_lt bh))) S H aC a'
end
section
variable {K:eN}{B:dO}{o:Oper}{n:Nat}{ds:eQ}{l:List (Nat×Value)}{m m':aI}{J:aA}{eF:b9->aI->aA->Prop}{d:Nat}{cx:Exit->b9->aI->aA->Prop}
theorem wrap_u8{n:Int}(aa:0<=n)(ab:n<=255):IntKind.u8.wrap n=n:=by
 unfold IntKind.wrap IntKind.signed IntKind.bits;simp only[Bool.false_and,yl,xA];omega
def Ku (a b:Int):BinOp->Option Int
 |.add=>some (a+b)
 |.sub=>some (a -b)
 |.mul=>some (a*b)
 |_=>none
theorem WI{op:BinOp}{t eV:TypeId}{x y:Operand}{k:IntKind}{a b c b1:Int}(an:o.op=.binOp op t x y eV)(I:bW l x=some (.int k a))(ah:bW l y=some (.int k b))(ap:Ku a b op=some c)(hw:k.wrap c=b1):c1 K B o n ds l m J (.int k b1):=by
 refine WK an I ah ?_;cases op<;>simp only[Ku,b6,reduceCtorEq] at ap<;>subst ap<;>subst hw<;>rfl
theorem WS{op:BinOp}{t eV:TypeId}{x y:Operand}{a b:List UInt8}{v:Value}(an:o.op=.binOp op t x y eV)(I:bW l x=some (.string ⟨⟨a⟩⟩))(ah:bW l y=some (.string ⟨⟨b⟩⟩))(dU:op=.eql/\v=.bool (decide (a=b))\/op=.neq/\v=.bool (decide (¬a=b))):c1 K B o n ds l m J v:=by
 intro call aL S H aC aE;unfold cY fU;simp only[an];show nr K.P _ op t (a6 S.T H x) (a6 S.T H y)=_;rw[ey aC H I,ey aC H ah];show orElse (gH K.P S.T H o) _=_;have:gH K.P S.T H o=some (.val v H):=by
  rcases dU with⟨rfl,rfl⟩|⟨rfl,rfl⟩
  ·refine uq aC (by rw[an];rfl) I ah rfl rfl ?_ rfl;unfold execOp;simp only[an];rw[lx aC H I,lx aC H ah];have ai:binOp .eql t (.string ⟨⟨a⟩⟩) (.string ⟨⟨b⟩⟩)=Op.stringOp .eql ⟨⟨a⟩⟩ ⟨⟨b⟩⟩:=by simp[binOp]
   have ar:fI K.P (eqGuard .eql t x y (.string ⟨⟨a⟩⟩) (.string ⟨⟨b⟩⟩))=some ():=rfl;rw[eC (a:=.bool (decide (a=b)))]
   ·rfl
   rw[eC ar,ai];show some (Value.bool ((⟨⟨a⟩⟩:ByteArray).toList==(⟨⟨b⟩⟩:ByteArray).toList))=_;rw[QF]
  ·refine uq aC (by rw[an];rfl) I ah rfl rfl ?_ rfl;unfold execOp;simp only[an];rw[lx aC H I,lx aC H ah];have ai:binOp .neq t (.string ⟨⟨a⟩⟩) (.string ⟨⟨b⟩⟩)=Op.stringOp .neq ⟨⟨a⟩⟩ ⟨⟨b⟩⟩:=by simp[binOp]
   have ar:fI K.P (eqGuard .neq t x y (.string ⟨⟨a⟩⟩) (.string ⟨⟨b⟩⟩))=some ():=rfl;rw[eC (a:=.bool (decide (¬a=b)))]
   ·rfl
   rw[eC ar,ai];show some (Value.bool (!((⟨⟨a⟩⟩:ByteArray).toList==(⟨⟨b⟩⟩:ByteArray).toList)))=_;rw[QF,show(!decide (a=b))=decide (¬a=b) by simp]
 rw[this];rfl
theorem Sa{S:aQ}{ops:List Oper}{d:Nat}{want:Bool}(ar:lz ops o=some (d,want))(ai:S.T.get d=some undef):fW ops S.T o=some false:=by
 unfold lz at ar;unfold fW;cases q:o.guard with
 |none=>rw[q] at ar;cases ar
 |some x=>
  obtain⟨j,w⟩:=x;rw[q] at ar;show tJ ops S.T (j,w)=_;unfold tJ;simp only at ar ⊢;cases aM:nth ops j with
  |none=>rfl
  |some p=>
   rw[aM] at ar;simp only at ar ⊢;cases aS:p.dst with
   |none=>rfl
   |some kO=>
    rw[aS] at ar;simp only[b6,da] at ar;obtain⟨rfl,rfl⟩:=ar;simp only[ai];rfl
theorem W.abS{ops rest:List Oper}{bD:Option (List PanicEntry)->b9->aI->aA->Prop}{d e:Nat}{want:Bool}(ar:lz ops o=some (d,want))(ai:look l d=some undef)(aS:o.dst=some e)(aM:Nat.blt e n=true)(h:W K B ops rest ⟨n,ds,(e,undef)::l⟩ m J bD):W K B ops (o::rest) ⟨n,ds,l⟩ m J bD:=by
 intro S H aC aE;have dF:=Sa ar (aC.get d _ ai);obtain⟨ba,s1,s2⟩:=aC.put (dst:=some e) aM undef;obtain⟨p,aO,H',E',m',ag,a',bd,bz,cM⟩:=h ba H s2 aE;refine⟨p,aO,H',E',m',ag,.cons jz oK ?_ a',bd,bz,cM⟩;unfold one;rw[dF];show n8 H (S.put o.dst undef)=_;rw[aS,s1];rfl
theorem ae.mi{c:Code}(k:Nat)(news:List (Nat×Value))(aa:ae K B c ⟨n,ds,l⟩ m J fun e E' m' ag=>match e with
 |.normal=>(∃l',E'=⟨n,ds,l'⟩/\oT l' (news++l.drop k))/\m.Sublist m'/\ag=J
 |e=>cx e E' m' ag)(ab:cx .normal ⟨n,ds,news++l.drop k⟩ m J):ae K B c ⟨n,ds,l⟩ m J cx:=ae.cut aa ab
theorem ae.afz{α:Type}{c:Code}{base:List (Nat×Value)}(rE:α->List (Nat×Value))(mem:α->aI)(fj:α->aA)(inv:α->Prop)(rC:α->Nat)(s:α)(al:inv s)
 (cp:∀s,inv s->ae K B c ⟨n,ds,rE s++base⟩ (mem s) (fj s) fun e E m J=>match e with
  |.normal=>∃cZ l,inv cZ/\rC cZ<rC s/\E=⟨n,ds,l⟩/\oT l (rE cZ++base)/\(mem cZ).Sublist m/\J=fj cZ
  |e=>cx e E m J):ae K B (.loop c) ⟨n,ds,rE s++base⟩ (mem s) (fj s) cx:=
 ae.loop (fun s=>rE s++base) mem fj inv rC cp s al
theorem ae.Fi{α:Type}{c:Code}{base:List (Nat×Value)}(rE:α->List (Nat×Value))(inv:α->Prop)(rC:α->Nat)(s:α)(al:inv s)
 (cp:∀s,inv s->ae K B c ⟨n,ds,rE s++base⟩ m J fun e E ct cN=>match e with
  |.normal=>∃cZ l,inv cZ/\rC cZ<rC s/\E=⟨n,ds,l⟩/\oT l (rE cZ++base)/\m.Sublist ct/\cN=J
  |e=>cx e E ct cN):ae K B (.loop c) ⟨n,ds,rE s++base⟩ m J cx:=
 ae.loop (fun s=>rE s++base) (fun _=>m) (fun _=>J) inv rC cp s al
theorem ae.Uj{c:Code}{E:b9}(h:ae K B c E m J fun e E m J=>match e with
 |.normal=>ae K B (.loop c) E m J cx
 |e=>cx e E m J):ae K B (.loop c) E m J cx:=by
 intro S H aC aE;obtain⟨e,ba,H1,iX,ct,cN,aa,ab,aK,bh⟩:=h S H aC aE;cases e with
 |normal=>
  have bh:ae K B (.loop c) iX ct cN cx:=bh;obtain⟨bn,aO,H',E',m',ag,a',bd,bz,cM⟩:=bh ba H1 ab aK;exact⟨bn,aO,H',E',m',ag,dM.Uk aa a',bd,bz,cM⟩
 |exit i=>exact⟨_,ba,H1,iX,ct,cN,dM.uf aa (fun q=>by cases q),ab,aK,bh⟩
 |goto i=>exact⟨_,ba,H1,iX,ct,cN,dM.uf aa (fun q=>by cases q),ab,aK,bh⟩
 |ret=>exact⟨_,ba,H1,iX,ct,cN,dM.uf aa (fun q=>by cases q),ab,aK,bh⟩
 |panic c=>exact⟨_,ba,H1,iX,ct,cN,dM.uf aa (fun q=>by cases q),ab,aK,bh⟩
 |outgrown=>exact⟨_,ba,H1,iX,ct,cN,dM.uf aa (fun q=>by cases q),ab,aK,bh⟩
theorem dc.app{aY m m':aI}{a:Nat}{b b':cI}(h:dc m a b b' m'):dc (aY++m) a b b' (aY++m'):=by
 induction aY with
 |nil=>exact h
 |cons x aY aG=>exact .tail x aG
theorem W.fj{ops rest:List Oper}{bD:Option (List PanicEntry)->b9->aI->aA->Prop}{E:b9}{a:Nat}{b:cI}{x:List Value×TypeId}(I:b.rowOf=some x)(h:J.le (J.add a x)->(J.add a x) a=some x->W K B ops rest E m (J.add a x) bD):W K B ops rest E ((a,b)::m) J bD:=by
 intro S H aC aE;obtain⟨a',bd⟩:=aE.lH I;exact h bd (aA.mf _ _ _) S H aC a'
def ew(J:aA)(v:Value)(l:List Int):Prop:=∃e,hl J e 1 v l.length (l.map (Value.int .i64))
theorem ew.mono{ag:aA}(hle:J.le ag){v:Value}{l:List Int}(h:ew J v l):ew ag v l:=by obtain⟨e,h⟩:=h;exact⟨e,h.mono hle⟩
theorem ew.inv{v:Value}{l:List Int}(h:ew J v l):∃b c,v=.slice b l.length c/\(b=none->l=[])/\(0<l.length->∃a off cells e,b=some ⟨a,off,none⟩/\J a=some (cells,e)/\∀(i:Int),0<=i->i<l.length->∃x,l[i.toNat]?=some x/\nth cells (off+i.toNat*1)=some (.int .i64 x)):=by
 obtain⟨e,h⟩:=h;obtain⟨b,c,aa,ab,bh,aK⟩:=hl.inv h;refine⟨b,c,aa,fun q=>wx (bh q),fun q=>?_⟩;obtain⟨a,off,cells,e,a',bd,bz⟩:=aK q;refine⟨a,off,cells,e,a',bd,fun i i0 i1=>?_⟩;have cP:i.toNat<l.length:=by omega
 refine⟨l[i.toNat],du cP,?_⟩;rw[s',bz _ (by omega),gG,du cP];rfl
theorem ew.lit{a:Nat}{l:List Int}{e:TypeId}(ay:l.length<cR)(h:J a=some (l.map (Value.int .i64),e)):ew J (.slice (some ⟨a,0,none⟩) l.length l.length) l:=
 ⟨e,.row h (by rw[m7,fZ (by simp)]) (by simp) (fun _=>⟨dH _,ay⟩) (fun q=>absurd q (by omega))⟩
theorem akr{c:Call}{s:List UInt8}{t:TypeId}(an:o.op=.call c)(av:c.callee=.builtin .len)(aW:il l c.args.toList=some [.string ⟨⟨s⟩⟩])(aN:c.argTypes.toList=[t])(al:ue K.P t=true):c1 K B o n ds l m J (.int .i64 s.length):=aks an av aW aN al
theorem akn{t:TypeId}{x bf:Operand}{s:List UInt8}{k:IntKind}{i:Int}{b:UInt8}(an:o.op=.index t x bf)(I:bW l x=some (.string ⟨⟨s⟩⟩))(ak:bW l bf=some (.int k i))(aN:ue K.P t=true)(bt:0<=i)(ai:s[i.toNat]?=some b):c1 K B o n ds l m J (.int .u8 b.toNat):=ako an I ak aN bt ai
theorem ahK{α:Type}:∀(L:List α) (k:Nat) (h:k<L.length),(L[k]::L.eraseIdx k).Perm L:=by
 intro L;induction L with
 |nil=>intro k h;cases h
 |cons a L aG=>
  intro k h;cases k with
  |zero=>exact PE _
  |succ k=>exact(List.Perm.swap _ _ _).trans ((aG k (by simpa using h)).cons a)
theorem iB{α:Type}{p:α}{rest L:List α}(k:Nat)(au:nth L k=some p)(ax:rest.Perm (L.eraseIdx k)):(p::rest).Perm L:=by
 rw[kk] at au;obtain⟨h,rfl⟩:=dv.1 au;exact(ax.cons _).trans (ahK L k h)
end
section
variable {K:eN}{B:dO}{n:Nat}{ds:eQ}{l:List (Nat×Value)}{m:aI}{J:aA}{cx:Exit->b9->aI->aA->Prop}
structure An (r:pI) (n:Nat) (params:List Tmp) (assign body:Code) (cf:Nat) (l:List (Nat×Value)):Prop where
 ei:r.state=.ready
 m2:r.n=n
 dx:r.params=params
 bJ:r.assign=assign
 lp:r.body=body
 aoj:r.pending=none
 sat:Sat ⟨n,yQ cf,l⟩ ⟨r.T,n,[],false,.run,some cf⟩
theorem ae.aim{f:Operand}{params:Array Tmp}{assign body:Code}{g:FuncId}{first cap:Array Value}(xu:ds.cB=none)(aw:bW l f=some (.func (.func g) first cap))
 (h:∀ik cf (r:pI),An r n params.toList assign body cf l->∃a4 b2 dT,(a4++b2).Perm ((cf,.loop r)::(ik,.gh)::m)/\vS a4/\
  Fn K g ((first.toList++[.func (.yield cf) #[] #[]])++cap.toList) a4 J dT/\∀v m' ag,J.le ag->dT v m' ag->∃b7 lZ,dc (m'++b2) cf (.loop b7) (.loop {b7 with state:=.exhausted}) lZ/\b7.state≠.busy/\U3 cx ⟨n,ds.plus ik,l⟩ lZ ag b7.pending):
 ae K B (.rangeFunc f params assign body) ⟨n,ds,l⟩ m J cx:=
 ae.range xu aw fun ik cf T dK=>h ik cf ⟨.ready,none,T,n,params.toList,assign,body,ik⟩ ⟨rfl,rfl,rfl,rfl,rfl,rfl,dK⟩
theorem An.again{r:pI}{params:List Tmp}{assign body:Code}{cf:Nat}(h:An r n params assign body cf l):An {r with state:=.ready,pending:=none} n params assign body cf l:=⟨rfl,h.m2,h.dx,h.bJ,h.lp,rfl,h.sat⟩
theorem wD.agn{cf:Nat}{r:pI}{params:List Tmp}{assign body:Code}{args:List Value}{a4:aI}{dT:Value->aI->aA->Prop}(ax:An r n params assign body cf l)(zr:(cf,.loop r)∈a4)(H6:tk n params=true)(hlen:params.length=args.length)
 (h:∀H,ae K (iO a4 H J) assign ⟨n,yQ cf,JQ params args l⟩ a4 J fun e E m cN=>e=.normal/\∃ct,dc m cf (.loop r) (.loop {r with state:=.busy}) ct/\
  ae K (iO a4 H J) body E ct cN fun e E m hs=>∃j dI eM l1,BR e=some j/\dc m cf (.loop dI) (.loop {dI with state:=if j.isNone then .ready else .done,pending:=j}) eM/\l1.Sublist eM/\dT (.bool j.isNone) l1 hs):wD K cf args a4 J dT:=by
 obtain⟨aa,rfl,rfl,rfl,rfl,_,gz⟩:=ax;exact wD.of aa zr gz H6 hlen h
end
end
end Go.Opn

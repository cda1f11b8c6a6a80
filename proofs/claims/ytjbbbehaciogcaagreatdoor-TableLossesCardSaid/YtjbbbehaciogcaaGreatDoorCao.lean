/- A part of the proof of TableLosses. -/
import Derived.Test.YtjbbbehaciogcaaGreatDoorCan
set_option linter.unusedVariables false
set_option linter.unusedSimpArgs false
namespace Go.Opn
noncomputable section
open Go.Cre Go.RowKit
open Classical
section
variable {K:dR}{B:dv}{o:Oper}{n:Nat}{ds:ee}{l:List (Nat×Value)}{m m':aN}{J:aj}{fk:ca->aN->aj->Prop}{d:Nat}{cw:Exit->ca->aN->aj->Prop}
def mQ(K:dR)(f:FuncId)(args:List Value)(bm:aN)(J:aj)(hj:Value->aN->aj->Prop)(fQ:List PanicEntry->aN->aj->Prop):Prop:=
 ∀H,Inv K.g0 (iH bm H J) J bm H->∃H' af m',Inv K.g0 (iH bm H J) af m' H'/\((∃v,jV K.Q f args H (.returned v) H'/\hj v m' af)\/∃bw,jV K.Q f args H (.panicked bw) H'/\fQ bw m' af)
def vy(K:dR)(bH:Nat)(args:List Value)(bm:aN)(J:aj)(hj:Value->aN->aj->Prop)(fQ:List PanicEntry->aN->aj->Prop):Prop:=
 ∀H,Inv K.g0 (iH bm H J) J bm H->∃H' af m' eG cE,Inv K.g0 (iH bm H J) af m' H'/\((∃v,(fN K.Q eG cE).aJ bH args H=some (.returned v,H')/\hj v m' af)\/∃bw,(fN K.Q eG cE).aJ bH args H=some (.panicked bw,H')/\fQ bw m' af)
theorem afe{S:aZ}{H:ar}{eG:Code->aZ->ar->Option (Exit×aZ×ar)}{cE:eI}{c:Call}{x:Operand}{bH:Nat}{args:List Value}(al:Sat ⟨n,ds,l⟩ S)
 (ah:o.op=.call c)(aC:c.callee=.value x)(aa:bJ l x=some (.func (.yield bH) #[] #[]))(aF:h4 l c.args.toList=some args):cz K.P (hJ K.Q cE) (fN K.Q eG cE).aJ S H o=Gc ((fN K.Q eG cE).aJ bH args H):=by
 unfold cz e4;simp only[ah];show kN K.P _ c=_;unfold kN;rw[aC];show nm K.P _ _ S.T H c=_;unfold nm;rw[oB al H aF];simp only[aC];rw[de al H aa];rfl
def Bs(bH:Nat):ee:=⟨[],some bH,false,.run⟩
def Ow:List Tmp->List Value->List (Nat×Value)->List (Nat×Value)
 |t::ts,v::vs,l=>Ow ts vs ((t,v)::l)
 |_,_,l=>l
theorem as2{eK:ee}:∀{ts:List Tmp} {vs:List Value} {l:List (Nat×Value)} {T:a0 Value},vA n ts=true->ts.length=vs.length->Sat ⟨n,eK,l⟩ ⟨T,n,eK.ds,eK.bR,eK.bg,eK.cr⟩->∃dZ,uQ T ts vs=some dZ/\Sat ⟨n,eK,Ow ts vs l⟩ ⟨dZ,n,eK.ds,eK.bR,eK.bg,eK.cr⟩:=by
 intro ts;induction ts with
 |nil=>intro vs l T _ h al;cases vs with
  |nil=>exact⟨T,rfl,al⟩
  |cons=>cases h
 |cons t ts aP=>
  intro vs l T ai h al;cases vs with
  |nil=>cases h
  |cons v vs=>
   simp only[vA,gr] at ai;obtain⟨a4,s1,s2⟩:=al.put (dst:=some t) ai.1 v;have cB:∃qK,a0.put v T t=some qK/\a4=⟨qK,n,eK.ds,eK.bR,eK.bg,eK.cr⟩:=by
    have s1:Bool.rec (motive:=fun _=>Option aZ) none (aZ.qw n eK.ds eK.bR eK.bg eK.cr (a0.put v T t)) (Nat.ble (Nat.succ t) n)=some a4:=s1;have pc:Nat.ble (Nat.succ t) n=true:=by simpa[Nat.blt] using ai.1
    rw[pc] at s1;cases aw:a0.put v T t with
    |none=>rw[aw] at s1;cases s1
    |some qK=>rw[aw] at s1;injection s1 with s1;exact⟨qK,rfl,s1.symm⟩
   obtain⟨qK,t1,rfl⟩:=cB;obtain⟨dZ,ax,aS⟩:=aP (l:=(t,v)::l) ai.2 (by simpa using h) s2;refine⟨dZ,?_,aS⟩;simp only[uQ,a0.set];rw[t1];exact ax
theorem vy.of{bH:Nat}{r:pB}{L:List (Nat×Value)}{args:List Value}{bm:aN}{hj:Value->aN->aj->Prop}{fQ:List PanicEntry->aN->aj->Prop}(ao:r.state=.ready)(B9:(bH,.loop r)∈bm)(cB:Sat ⟨r.n,Bs bH,L⟩ ⟨r.T,r.n,[],false,.run,some bH⟩)(Mz:vA r.n r.params=true)(hlen:r.params.length=args.length)
 (h:∀H,az K (iH bm H J) r.assign ⟨r.n,Bs bH,Ow r.params args L⟩ bm J fun e E m bu=>e=.normal/\∃cW,gB m bH (.loop r) (.loop {r with state:=.busy}) cW/\
  az K (iH bm H J) r.body E cW bu fun e E m cZ=>(∃j c2 eE mF,Fi e=some j/\gB m bH (.loop c2) (.loop {c2 with state:=if j.isNone then .ready else .done,pending:=j}) eE/\mF.Sublist eE/\hj (.bool j.isNone) mF cZ)\/
   ∃bw mF,e=.panic bw/\E.ds.ds=[]/\mF.Sublist m/\fQ bw mF cZ):vy K bH args bm J hj fQ:=by
 intro H aB;obtain⟨dZ,dg,gp⟩:=as2 (eK:=Bs bH) Mz hlen cB;obtain⟨e,a4,H1,eJ,cW,bu,bb,br,cc,rfl,eE,gl,eo⟩:=h H _ H gp aB;have bb:dL K.Q r.assign ⟨dZ,r.n,[],false,.run,some bH⟩ H .normal a4 H1:=bb;have b4:H1.mem.get bH=some (.loop r):=(cc.own _ _ gl.mem).1;obtain⟨bW,u1⟩:=cc.wf.upd (.loop {r with state:=.busy}) (cc.lt gl.mem);have L0:=cc.upd gl u1 (by show bW.mem.get bH=_;rw[(ar.rn u1).2.2.2.2,aV rfl]);obtain⟨aS,pV,fx,axw,mF,gi,d1,d2,d3,d0⟩:=eo a4 bW br L0;have ay:H.mem.get bH=some (.loop r):=(aB.own _ _ B9).1;have p':Nat.ble H.bL bH=true:=mo (by have:=(aB.own _ _ B9).2.2.2;have:=aB.bL;omega);have key:∀mi,Ou bH (some (aS,pV,fx))=mi->(fN K.Q (Um r.assign ⟨dZ,r.n,[],false,.run,some bH⟩ H (.normal,a4,H1) r.body a4 bW (aS,pV,fx)) kL).aJ bH args H=mi:=fun mi oJ=>by
  show(match H.mem.get bH with
   |some (.loop r)=>bif Nat.ble H.bL bH&&vA r.n r.params then afg _ bH r H (uQ r.T r.params args) else none
   |_=>none)=_
  rw[ay];simp only
  rw[p',Mz,w4,cd,dg];show Vv _ bH r.body (rL K.Q _ r.assign ⟨dZ,r.n,[],false,.run,some bH⟩ H)=_;rw[Qf bb (by unfold Um;rw[aV ⟨rfl,rfl,rfl⟩])];show Km _ bH r.body a4 H1=_;unfold Km;rw[b4];simp only[ao];rw[u1];show Ou bH (rL K.Q _ r.body a4 bW)=_;rw[Qf d1 (by
   unfold Um;split
   ·rename_i q;obtain⟨aL,aG,bt⟩:=q;subst bt;rw[(ar.rn u1).2.2.2.2,aV rfl] at ay;injection ay with ay;injection ay with ay
    have:=cC pB.state ay;rw[ao] at this;cases this
   ·rw[aV ⟨rfl,rfl,rfl⟩])]
  exact oJ
 rcases d0 with⟨j,c2,tc,wE,d4,d5,d6,d7⟩|⟨bw,wE,rfl,d5,d6,d7⟩
 ·have cH:fx.mem.get bH=some (.loop c2):=(d3.own _ _ d5.mem).1;obtain⟨kB,bT⟩:=d3.wf.upd (.loop {c2 with state:=if j.isNone then .ready else .done,pending:=j}) (d3.lt d5.mem);have HS:=d3.upd d5 bT (by show kB.mem.get bH=_;rw[(ar.rn bT).2.2.2.2,aV rfl]);refine⟨kB,gi,wE,_,_,HS.sub d6,.inl ⟨.bool j.isNone,key _ ?_,d7⟩⟩;show(match Fi aS with|some j=>Dp fx bH j|none=>Kn fx aS pV.ds)=_
  rw[d4];show Dp fx bH j=_;unfold Dp;rw[cH];simp only[bT];rfl
 ·refine⟨fx,gi,wE,_,_,d3.sub d6,.inr ⟨bw,key _ ?_,d7⟩⟩;show Kn fx (.panic bw) pV.ds=_;rw[d2.ds,d5];rfl
def acy(cw:Exit->ca->aN->aj->Prop)(E:ca)(m:aN)(J:aj):Option Code->Prop
 |none=>cw .normal E m J
 |some .ret=>cw .ret E m J
 |some (.exit id)=>cw (.exit id) E m J
 |some _=>False
def ee.plus(eK:ee)(r:Nat):ee:=⟨{target:=.collected r,args:=#[]}::eK.ds,eK.cr,eK.bR,eK.bg⟩
theorem az.ato{f:Operand}{params:Array Tmp}{assign body:Code}{g:FuncId}{first cap:Array Value}(Aa:ds.cr=none)(aA:bJ l f=some (.func (.func g) first cap))
 (h:∀nk bH (T:a0 Value),Sat ⟨n,Bs bH,l⟩ ⟨T,n,[],false,.run,some bH⟩->∃bm cN dY fQ,(bm++cN).Perm ((bH,.loop ⟨.ready,none,T,n,params.toList,assign,body,nk⟩)::(nk,.gP)::m)/\Al bm/\
  mQ K g ((first.toList++[.func (.yield bH) #[] #[]])++cap.toList) bm J dY fQ/\(∀bw m' af,J.le af->fQ bw m' af->cw (.panic bw) ⟨n,ds.plus nk,l⟩ (m'++cN) af)/\∀v m' af,J.le af->dY v m' af->∃cv mE,gB (m'++cN) bH (.loop cv) (.loop {cv with state:=.exhausted}) mE/\cv.state≠.busy/\acy cw ⟨n,ds.plus nk,l⟩ mE af cv.pending):
 az K B (.rangeFunc f params assign body) ⟨n,ds,l⟩ m J cw:=by
 intro S H al aB;obtain⟨H1,ax⟩:=aB.wf.new (.gP (some []));have LZ:=aB.new (p:=.gP) ax (by show H1.mem.get H.an=_;rw[(ar.pp ax).2.2.2.2.2,aV rfl]);obtain⟨bW,aS⟩:=LZ.wf.new (.loop ⟨.ready,none,S.T,S.n,params.toList,assign,body,H.an⟩);have aE:S.n=n:=al.n;have L0:=LZ.new (p:=.loop ⟨.ready,none,S.T,n,params.toList,assign,body,H.an⟩) aS (by show bW.mem.get H1.an=_;rw[(ar.pp aS).2.2.2.2.2,aV rfl,aE]);have aoz:Sat ⟨n,Bs H1.an,l⟩ ⟨S.T,n,[],false,.run,some H1.an⟩:=⟨rfl,rfl,rfl,rfl,rfl,al.has,al.get⟩;obtain⟨bm,cN,dY,fQ,dg,gp,lu,jQ,yQ⟩:=h H.an H1.an S.T aoz;obtain⟨fx,gi,mF,aG,atl⟩:=lu bW (L0.enter dg gp);obtain⟨du,fU⟩:=L0.leave dg aG;have L5:Sat ⟨n,ds.plus H.an,l⟩ {S with ds:={target:=.collected H.an,args:=#[]}::S.ds}:=⟨al.n,by show _::_=_::_;rw[al.ds],al.bR,al.bg,al.cr,al.has,al.get⟩;have aay:∀xQ mi,jV K.Q g ((first.toList++[.func (.yield H1.an) #[] #[]])++cap.toList) bW xQ fx->NQ {S with ds:={target:=.collected H.an,args:=#[]}::S.ds} H1.an (some (xQ,.run,fx))=some mi->dL K.Q (.rangeFunc f params assign body) S H mi.1 mi.2.1 mi.2.2:=fun xQ mi aL oJ=>by
  refine dL.wK K.cI.re gQ (kW g ((first.toList++[.func (.yield H1.an) #[] #[]])++cap.toList) bW (xQ,fx)) ?_;show Em K.P _ f params assign body S H=_;unfold Em JS;rw[show S.cr=none from al.cr.trans Aa] at oJ ⊢;simp only[ax,aS];rw[de al bW aA];unfold acY;simp only[kY];show NQ _ H1.an ((fN K.Q _ _).body g _ false .run bW)=_;have ai:(fN K.Q gQ (kW g ((first.toList++[.func (.yield H1.an) #[] #[]])++cap.toList) bW (xQ,fx))).body g ((first.toList++[.func (.yield H1.an) #[] #[]])++cap.toList) false .run bW=some (xQ,.run,fx):=by
   unfold fN;simp only[ze,yp];rw[Bi aL (by unfold kW;rw[aV ⟨rfl,rfl,rfl⟩])]
  rw[ai];exact oJ
 rcases atl with⟨v,aL,bt⟩|⟨bw,aL,bt⟩
 case inr=>exact⟨_,_,_,_,_,_,aay _ (.panic bw,_,fx) aL rfl,L5,du,jQ _ _ _ fU bt⟩
 obtain⟨cv,tc,s1,s2,gN⟩:=yQ v mF gi fU bt;have cH:fx.mem.get H1.an=some (.loop cv):=(du.own _ _ s1.mem).1;obtain⟨kB,bT⟩:=du.wf.upd (.loop {cv with state:=.exhausted}) (du.lt s1.mem);have HS:=du.upd s1 bT (by show kB.mem.get H1.an=_;rw[(ar.rn bT).2.2.2.2,aV rfl]);have key:∀mi,Uw {S with ds:={target:=.collected H.an,args:=#[]}::S.ds} cv.pending kB=some mi->dL K.Q (.rangeFunc f params assign body) S H mi.1 mi.2.1 mi.2.2:=fun mi oJ=>by
  refine aay _ mi aL ?_;show JR _ H1.an fx=_;unfold JR;rw[cH];simp only
  cases dB:cv.state with
  |busy=>exact absurd dB s2
  |ready=>simp only[bT];exact oJ
  |done=>simp only[bT];exact oJ
  |exhausted=>simp only[bT];exact oJ
 cases ZP:cv.pending with
 |none=>rw[ZP] at gN key;exact⟨_,_,_,_,_,_,key _ rfl,L5,HS,gN⟩
 |some c=>
  rw[ZP] at gN key;cases c with
  |ret=>exact⟨_,_,_,_,_,_,key _ rfl,L5,HS,gN⟩
  |exit id=>exact⟨_,_,_,_,_,_,key _ rfl,L5,HS,gN⟩
  |_=>exact absurd gN id
theorem Inv.drop{g0 a:Nat}{b:dI}{c:fB}{H H1:ar}(h:Inv g0 B J m H)(aw:((a,b)::m').Perm m)(ax:H.upd a c=some H1):Inv g0 B J m' H1:=by
 have h:=h.perm aw.symm;obtain⟨aW,aT,bo,cu⟩:=h.own a b (.head _);have cD:=h.lt (.head _);have eh:=h.gF;rw[show ids ((a,b)::m')=a::(b.rest++ids m') from rfl,vn,nh] at eh;obtain⟨b1,df,ef,e9,hv⟩:=ar.rn ax;refine⟨h.wf.N' cD ax,e9.trans h.bL,by rw[b1];exact h.an,by rw[ef];exact h.cy,fun x aa ft=>?_,fun f aA=>by rw[df];exact h.nB f aA,fun x c e aX=>?_,h.le,h.fresh,fun x b ai=>?_,fun x b ai y ap=>by rw[b1];exact h.opn x b (.tail _ ai) y ap,(DJ _ _).nodup eh.2⟩
 ·rw[hv,aQ (fun q=>by subst q;rcases aT with q|q;·omega
                      ·exact ft q)]
  exact h.gn x aa ft
 ·obtain⟨o,f,z,s,q⟩:=h.ei x c e aX
  exact⟨o,f,z,s,by rw[hv,aQ (fun r=>by subst r;rw[bo] at aX;cases aX)];exact q⟩
 ·obtain⟨ec,dA,ib,j8⟩:=h.own x b (.tail _ ai)
  exact⟨dI.xo ec (by rw[hv,aQ (fun q=>eh.1 (by subst q;exact .inr (Ag ai)))]) (fun f l aA=>by rw[df];exact aA),dA,ib,j8⟩
inductive A5:List Deferred->aN->aN->Prop
 |nil (m:aN):A5 [] m m
 |G2 {r:Nat} {dl:List Deferred} {m cW eE:aN}:((r,.gP)::cW).Perm m->A5 dl cW eE->A5 ({target:=.collected r,args:=#[]}::dl) m eE
theorem A5.adn{E':fZ}{fn:Func}{T:a0 Value}{dl:List Deferred}{eE:aN}{u:FrameMode}(hu:IX u=false)(h:A5 dl m eE):∀{H:ar},Inv K.g0 B J m H->∃H',Inv K.g0 B J eE H'/\∀r,hL K.P E' fn T [] u H'=r->hL K.P E' fn T dl u H=r:=by
 induction h with
 |nil m=>intro H aB;exact⟨H,aB,fun r q=>q⟩
 |@G2 r dl m cW eE aw _ aP=>
  intro H aB;have uv:(r,dI.gP)∈m:=aw.subset (.head _);obtain⟨aW,aT,bo,cu⟩:=aB.own _ _ uv;have aW:H.mem.get r=some (.gP (some [])):=aW;obtain⟨H1,ax⟩:=aB.wf.upd (.gP none) (aB.lt uv);obtain⟨H',aL,aG⟩:=aP (aB.drop aw ax);refine⟨H',aL,fun cv ao=>?_⟩;have:=aG cv ao;show hL K.P E' fn T ({target:=.collected r,args:=#[]}::dl) u H=cv;unfold hL;simp only[hu,dK,aW];rw[show Nat.ble H.bL r=true from mo (by have:=aB.bL;omega),cd,ax];exact this
theorem Fn.T9{f:FuncId}{fn:Func}{c:Code}{args:List Value}{bm:aN}{dY:Value->aN->aj->Prop}(aA:K.fE.get f=some fn)(ai:fn.body=some c)(aq:Nat.ble args.length fn.ntmps=true)
 (h:∀H,az K (iH bm H J) c ⟨fn.ntmps,zJ,tK args 0⟩ bm J fun e E m af=>(e=.normal\/e=.ret)/\∃cW vs m',A5 E.ds.ds m cW/\mX K.P E cW af fn.results.toList vs/\m'.Sublist cW/\dY (pr vs) m' af):Fn K f args bm J dY:=by
 intro H aB;obtain⟨T,ba,bd,cm⟩:=Py (vs:=args) (i:=0) (n:=fn.ntmps) (PR fn.ntmps) (by have:=h3 aq;omega);have al:Sat ⟨fn.ntmps,zJ,tK args 0⟩ ⟨T,fn.ntmps,[],false,.run,none⟩:=by
  refine⟨rfl,rfl,rfl,rfl,rfl,bd,fun t v q=>?_⟩;obtain⟨_,aG⟩:=Pw q;show T.get t=some v;have:t<args.length:=by
   rcases hH t args.length with r|r
   ·exact r
   ·rw[jX (by omega)] at aG;cases aG
  rw[cm,aV (by omega)];exact aG
 obtain⟨e,aH,H',E',fo,af,aW,aT,bo,cu,cW,vs,m',fm,iG,pk,qk⟩:=h H _ H al aB;obtain⟨bW,aL,aG⟩:=fm.adn (u:=.returning) rfl (E':=fN K.Q (kX c ⟨T,fn.ntmps,[],false,.run,none⟩ H (e,aH,H')) kL) (fn:=fn) (T:=aH.T) bo;refine⟨pr vs,bW,af,m',?_,aL.sub pk,qk⟩;refine jV.run K.cI aA ai ba aW (bg:=aH.bg) ?_;have ao:=iG.vS aT aL;have nt:=aG (some (.returned (pr vs),bW)) (by unfold hL;rw[ao]);rcases cu with rfl|rfl
 ·show qM aH.bg (hL K.P _ fn aH.T aH.ds .returning H')=_;rw[aT.ds,nt];rfl
 ·show qM aH.bg (hL K.P _ fn aH.T aH.ds .returning H')=_;rw[aT.ds,nt];rfl
end
theorem acx{P:Program}{t:TypeId}{cs:Array Value}{off:Nat}{v:Value}{k:IntKind}(hu:P.underlying t=some (.int k))(h:cs[off]?=some v):eR P (part t cs off)=some v:=by
 unfold part;rw[eL (a:=false)]
 ·show eR P (match cs[off]? with|some v=>pure v|none=>stuck "part: no such cell")=_
  rw[h];rfl
 ·unfold isAgg;rw[eL (Bx hu)];rfl
theorem eq_int{P:Program}{t:TypeId}{k:IntKind}{n:Nat}{a b:Int}(hu:P.underlying t=some (.int k)):eR P (Op.equalIn (n+1) t (.int .i64 a) (.int .i64 b))=some (decide (a=b)):=by
 unfold Op.equalIn;rw[eL (Bx hu)];show eR P (if IntKind.i64=IntKind.i64 then pure (a==b) else _)=_;rw[aV rfl];show some (a==b)=_;rw[show(a==b)=decide (a=b) from rfl]
theorem aqG{P:Program}{n:Nat}{xs ys:Array Value}:∀(e5:List Field) (bO bs:List Int) (k:Nat),e5.length=bO.length->bO.length=bs.length->(∀i f,e5[i]?=some f->f.name≠ "_"/\P.underlying f.type=some (.int .i64)/\f.offset=k+i)->(∀i a,bO[i]?=some a->xs[k+i]?=some (.int .i64 a))->(∀i a,bs[i]?=some a->ys[k+i]?=some (.int .i64 a))->
 eR P (forIn e5 ((none,()):Option Bool×Unit) fun f axM=>
        if f.name≠ "_" then do
           let Ba <-part f.type xs f.offset
           let Pj <-part f.type ys f.offset
           let Ba <-Op.equalIn (n+1) f.type Ba Pj
           if(!Ba)=true then pure (ForInStep.done (some false,()))
             else pure (ForInStep.yield (none,()))
        else pure (ForInStep.yield (none,())))=some (if bO=bs then none else some false,()):=by
 intro e5;induction e5 with
 |nil=>
  intro bO bs k ad ae _ _ _;obtain rfl:bO=[]:=oj (by simpa using ad.symm);obtain rfl:bs=[]:=oj (by simpa using ae.symm);rfl
 |cons f e5 aP=>
  intro bO bs k ad ae aA aa ap;cases bO with
  |nil=>cases ad
  |cons a bO=>
   cases bs with
   |nil=>cases ae
   |cons b bs=>
    obtain⟨f1,f2,f3⟩:=aA 0 f rfl;rw[List.forIn_cons]
    have a7:eR P (if f.name≠ "_" then do
             let Ba <-part f.type xs f.offset
             let Pj <-part f.type ys f.offset
             let Ba <-Op.equalIn (n+1) f.type Ba Pj
             if(!Ba)=true then pure (ForInStep.done ((some false,()):Option Bool×Unit))
              else pure (ForInStep.yield (none,()))
            else pure (ForInStep.yield (none,())))=some (if a=b then ForInStep.yield (none,()) else ForInStep.done (some false,())):=by
     rw[aV f1,eL (acx f2 (by rw[f3];exact aa 0 a rfl)),eL (acx f2 (by rw[f3];exact ap 0 b rfl)),eL (eq_int f2)];by_cases jk:a=b
     ·simp[jk];rfl
     ·simp[jk];rfl
    rw[eL a7];by_cases jk:a=b
    ·rw[aV jk]
     simp only
     rw[aP bO bs (k+1) (by simpa using ad) (by simpa using ae) (fun i g ay=>by obtain⟨b4,bZ,cH⟩:=aA (i+1) g ay;exact⟨b4,bZ,by omega⟩) (fun i c aC=>by have:=aa (i+1) c aC;rwa [show k+(i+1)=k+1+i by omega] at this) (fun i c aC=>by have:=ap (i+1) c aC;rwa [show k+(i+1)=k+1+i by omega] at this)];simp[jk]
    ·rw[aQ jk]
     simp only
     rw[aQ (by intro q;injection q with aL aG;exact jk aL)];rfl
def GF (P:Program):List Field->Nat->Bool
 |[],_=>true
 |f::e5,k=>!(f.name== "_")&&(match P.underlying f.type with|some (.int .i64)=>true|_=>false)&&Nat.beq f.offset k&&GF P e5 (k+1)
def MR (P:Program)(t:TypeId):Option Nat:=match P.underlying t with
 |some (.struct fields)=>bif GF P fields.toList 0&&!P.stoodInHeld t&&!P.eqGuardType P.depth t then some fields.toList.length else none
 |_=>none
theorem agz{P:Program}:∀{e5:List Field} {k:Nat},GF P e5 k=true->∀i f,e5[i]?=some f->f.name≠ "_"/\P.underlying f.type=some (.int .i64)/\f.offset=k+i:=by
 intro e5;induction e5 with
 |nil=>intro k _ i f h;simp at h
 |cons g e5 aP=>
  intro k h i f aA;simp only[GF,gr] at h;obtain⟨⟨⟨ad,ae⟩,aD⟩,a6⟩:=h;cases i with
  |zero=>
   simp at aA;subst aA;refine⟨by simpa using ad,?_,by have:=ez aD;omega⟩;split at ae
   ·assumption
   ·cases ae
  |succ i=>
   obtain⟨aL,aG,bt⟩:=aP a6 i f (by simpa using aA);exact⟨aL,aG,by omega⟩
theorem aj5{P:Program}{t:TypeId}{k n:Nat}{bO bs:List Int}(aI:MR P t=some k)(aF:bO.length=k)(ai:bs.length=k):eR P (Op.equalIn (n+1+1) t (.agg (bO.map (Value.int .i64)).toArray) (.agg (bs.map (Value.int .i64)).toArray))=some (decide (bO=bs))/\P.eqGuardType P.depth t=false/\∃e5,P.underlying t=some (.struct e5):=by
 unfold MR at aI;split at aI
 ·rename_i fields hu;cases aC:(GF P fields.toList 0&&!P.stoodInHeld t&&!P.eqGuardType P.depth t) with
  |false=>rw[aC] at aI;cases aI
  |true=>
   rw[aC,cd] at aI;injection aI with aI
   simp only[gr,sm] at aC;obtain⟨⟨bb,br⟩,cc⟩:=aC;refine⟨?_,cc,fields,hu⟩;unfold Op.equalIn;rw[eL (Bx hu)];simp only
   simp only[<-Array.forIn_toList];rw[eL (a:=P) rfl];rw[aQ (by simp[br])];have aq:=aqG (P:=P) (n:=n) (xs:=(bO.map (Value.int .i64)).toArray) (ys:=(bs.map (Value.int .i64)).toArray) fields.toList bO bs 0 (by omega) (by omega) (fun i f aA=>by have:=agz bb i f aA;exact this) (fun i a q=>by simp[q]) (fun i a q=>by simp[q]);rw[eL aq];by_cases jk:bO=bs
   ·simp[jk];rfl
   ·simp[jk];rfl
 ·cases aI
section
variable {K:dR}{B:dv}{o:Oper}{n:Nat}{ds:ee}{l:List (Nat×Value)}{m m':aN}{J:aj}{fk:ca->aN->aj->Prop}{d:Nat}
theorem awo{op:BinOp}{t dH:TypeId}{x y:Operand}{k:Nat}{la bs:List Int}{xs ys:Array Value}{b:Bool}(ah:o.op=.binOp op t x y dH)(eu:op=.eql/\b=decide (la=bs)\/op=.neq/\b=decide (¬la=bs))(aa:bJ l x=some (.agg xs))(ap:bJ l y=some (.agg ys))(aI:MR K.P t=some k)(ape:xs=(la.map (Value.int .i64)).toArray)(apg:ys=(bs.map (Value.int .i64)).toArray)(aF:la.length=k)(ai:bs.length=k):cY K B o n ds l m J (.bool b):=by
 subst ape;subst apg;obtain⟨ad,ae,e5,aD⟩:=aj5 (n:=9998) aI aF ai;intro call aJ S H al aB;have fv:∀gz:List Int,plain (.agg (gz.map (Value.int .i64)).toArray)=true:=fun gz=>by
  show(gz.map (Value.int .i64)).all (iV 7)=true;rw[List.all_map,rA];intro i _;rfl
 unfold cz e4;simp only[ah];show lU K.P _ op t (a3 S.T H x) (a3 S.T H y)=_;rw[de al H aa,de al H ap];show orElse (fl K.P S.T H o) _=_;have:fl K.P S.T H o=some (.val (.bool b) H):=by
  refine pt al (by rw[ah];rfl) aa ap (fv _) (fv _) ?_ rfl;unfold execOp;simp only[ah];rw[hK al H aa,hK al H ap];rw[eL (a:=.bool b)]
  ·rfl
  rcases eu with⟨rfl,rfl⟩|⟨rfl,rfl⟩
  ·rw[eL (a:=())]
   ·have ai:binOp .eql t (.agg (la.map (Value.int .i64)).toArray) (.agg (bs.map (Value.int .i64)).toArray)=(do pure (.bool (<-Op.equal t (.agg (la.map (Value.int .i64)).toArray) (.agg (bs.map (Value.int .i64)).toArray)))):=by simp[binOp]
    rw[ai,eL (s:=Op.equal t _ _) ad];rfl
   ·unfold eqGuard;simp only[nM,ze,yp];rw[eL (a:=K.P) rfl,eL (a:=K.P) rfl,ae];rfl
  ·rw[eL (a:=())]
   ·have ai:binOp .neq t (.agg (la.map (Value.int .i64)).toArray) (.agg (bs.map (Value.int .i64)).toArray)=(do pure (.bool (!(<-Op.equal t (.agg (la.map (Value.int .i64)).toArray) (.agg (bs.map (Value.int .i64)).toArray))))):=by simp[binOp]
    rw[ai,eL (s:=Op.equal t _ _) ad];show some (Value.bool (!decide (la=bs)))=_;rw[show(!decide (la=bs))=decide (¬la=bs) by simp]
   ·unfold eqGuard;simp only[nM,ze,yp];rw[eL (a:=K.P) rfl,eL (a:=K.P) rfl,ae];rfl
 rw[this];rfl
theorem Acc.ei{c:Code}{e:TypeId}{sz k:Nat}{v:Value}{cells:List Value}{bc fo:aN}{E:ca}{cw:Exit->ca->aN->aj->Prop}(h:Acc e sz v k cells bc)(hm:m=bc++fo)(hk:∀af,J.le af->fR af e sz v k cells->az K B c E fo af cw):az K B c E m J cw:=by
 subst hm;cases h with
 |nil=>exact hk J (aj.le.refl _) .nil
 |jH a=>exact hk J (aj.le.refl _) (.jH _ _ _ (by decide))
 |@opn a k cells rest z aq aM=>
  intro S H al aB;obtain⟨aW,aT⟩:=aB.ie (m:=fo) (x:=(cells,e)) rfl;exact hk _ aT (.row (aj.iE _ _ _) (by rw[gO,cU (by omega)]) aq (fun q=>absurd rfl q) (fun _=>rfl)) S H al aW
 |@cap a k C cells full el ad ae aD a6=>
  intro S H al aB;obtain⟨aW,aT⟩:=aB.ie (m:=fo) (x:=(full,el)) rfl;exact hk _ aT (.row (aj.iE _ _ _) ae (by rw[<-ae,eA,ad,g6 (fq _ aD)]) (fun _=>⟨aD,a6⟩) (fun q=>absurd q (Gt a6))) S H al aW
end
section
variable {K:dR}{B:dv}{o:Oper}{n:Nat}{ds:ee}{l:List (Nat×Value)}{m m':aN}{J:aj}{fk:ca->aN->aj->Prop}{d:Nat}{cw:Exit->ca->aN->aj->Prop}
theorem wrap_u8{n:Int}(ad:0<=n)(ae:n<=255):IntKind.u8.wrap n=n:=by
 unfold IntKind.wrap IntKind.signed IntKind.bits;simp only[Gj,ze,yp];omega
def Pu (a b:Int):BinOp->Option Int
 |.add=>some (a+b)
 |.sub=>some (a -b)
 |.mul=>some (a*b)
 |_=>none
theorem awb{op:BinOp}{t dH:TypeId}{x y:Operand}{k:IntKind}{a b c c':Int}(ah:o.op=.binOp op t x y dH)(aa:bJ l x=some (.int k a))(ap:bJ l y=some (.int k b))(av:Pu a b op=some c)(hw:k.wrap c=c'):cY K B o n ds l m J (.int k c'):=by
 refine aeE ah aa ap ?_;cases op<;>simp only[Pu,cn,reduceCtorEq] at av<;>subst av<;>subst hw<;>rfl
def isIface (P:Program)(t:TypeId):Bool:=match P.underlying t with|some (.interface _)=>true|_=>false
def MP:Value->Option Bool
 |.nilIface=>some true
 |.iface _ _=>some false
 |_=>none
theorem aeC{t dH:TypeId}{x:Operand}{v:Value}{b:Bool}(ah:o.op=.binOp .eql t x (.const .nilIface) dH)(aa:bJ l x=some v)(av:MP v=some b)(aI:isIface K.P t=true):cY K B o n ds l m J (.bool b):=by
 intro call aJ S H al aB;have ap:bJ l (.const .nilIface)=some .nilIface:=rfl;unfold isIface at aI;split at aI
 ·rename_i M8 hu;cases v with
  |nilIface=>
   simp only[MP,cn] at av;subst av;unfold cz e4;simp only[ah];show lU K.P _ .eql t (a3 S.T H x) (a3 S.T H (.const .nilIface))=_;rw[de al H aa,de al H ap];show orElse (fl K.P S.T H o) _=_;have:fl K.P S.T H o=some (.val (.bool true) H):=by
    refine pt al (by rw[ah];rfl) aa ap rfl rfl ?_ rfl;unfold execOp;simp only[ah];rw[hK al H aa,hK al H ap];rw[eL (a:=.bool true)]
    ·rfl
    rw[eL (a:=())]
    ·have ai:binOp .eql t .nilIface .nilIface=(do pure (.bool (<-Op.equal t .nilIface .nilIface))):=by simp[binOp]
     rw[ai,eL (a:=true)]
     ·rfl
     show eR K.P (Op.equalIn (9999+1) t .nilIface .nilIface)=_;unfold Op.equalIn;rw[eL (Bx hu)];rfl
    ·unfold eqGuard;simp
     rfl
   rw[this];rfl
  |iface lx v'=>
   simp only[MP,cn] at av;subst av;cases aw:fl K.P S.T H o with
   |none=>
    refine W6 ah (de al H aa) (de al H ap) (fun _ _ q=>by cases q) aw ?_;unfold wN xT;simp only[hu]
   |some r=>
    unfold cz e4;simp only[ah];show lU K.P _ .eql t (a3 S.T H x) (a3 S.T H (.const .nilIface))=_;rw[de al H aa,de al H ap];show orElse (fl K.P S.T H o) _=_;have:fl K.P S.T H o=some (.val (.bool false) H):=by
     have fv:plain (.iface lx v')=true:=by
      cases q:plain (.iface lx v') with
      |true=>rfl
      |false=>
       exfalso;unfold fl at aw;rw[ah] at aw;have:fL S.T H (Op.binOp BinOp.eql t x (.const .nilIface) dH).operands.toList=some [.iface lx v',.nilIface]:=by
        show fL S.T H [x,.const .nilIface]=_;simp only[fL];rw[de al H aa,de al H ap]
       rw[this] at aw;simp only[DD,q,Gj,dK] at aw;cases aw
     refine pt al (by rw[ah];rfl) aa ap fv rfl ?_ rfl;unfold execOp;simp only[ah];rw[hK al H aa,hK al H ap];rw[eL (a:=.bool false)]
     ·rfl
     rw[eL (a:=())]
     ·have ai:binOp .eql t (.iface lx v') .nilIface=(do pure (.bool (<-Op.equal t (.iface lx v') .nilIface))):=by simp[binOp]
      rw[ai,eL (a:=false)]
      ·rfl
      show eR K.P (Op.equalIn (9999+1) t (.iface lx v') .nilIface)=_;unfold Op.equalIn;rw[eL (Bx hu)];rfl
     ·unfold eqGuard;simp
      rfl
    rw[this];rfl
  |_=>simp[MP] at av
 ·cases aI
theorem YB{S:aZ}{ops:List Oper}{d:Nat}{want:Bool}(ay:lg ops o=some (d,want))(ai:S.T.get d=some undef):fT ops S.T o=some false:=by
 unfold lg at ay;unfold fT;cases q:o.guard with
 |none=>rw[q] at ay;cases ay
 |some x=>
  obtain⟨j,w⟩:=x;rw[q] at ay;show vY ops S.T (j,w)=_;unfold vY;simp only at ay ⊢;cases aE:nth ops j with
  |none=>rfl
  |some p=>
   rw[aE] at ay;simp only at ay ⊢;cases au:p.dst with
   |none=>rfl
   |some lI=>
    rw[au] at ay;simp only[cn,dr] at ay;obtain⟨rfl,rfl⟩:=ay;simp only[ai];rfl
theorem W.al'{ops rest:List Oper}{bq:Option (List PanicEntry)->ca->aN->aj->Prop}{d e:Nat}{want:Bool}(ay:lg ops o=some (d,want))(ai:look l d=some undef)(au:o.dst=some e)(aE:Nat.blt e n=true)(h:W K B ops rest ⟨n,ds,(e,undef)::l⟩ m J bq):W K B ops (o::rest) ⟨n,ds,l⟩ m J bq:=by
 intro S H al aB;have ea:=YB ay (al.get d _ ai);obtain⟨a4,s1,s2⟩:=al.put (dst:=some e) aE undef;obtain⟨p,aH,H',E',m',af,aW,aT,bo,cu⟩:=h a4 H s2 aB;refine⟨p,aH,H',E',m',af,.cons gQ kL ?_ aW,aT,bo,cu⟩;unfold one;rw[ea];show ob H (S.put o.dst undef)=_;rw[au,s1];rfl
theorem az.en{c:Code}(k:Nat)(news:List (Nat×Value))(ad:az K B c ⟨n,ds,l⟩ m J fun e E' m' af=>match e with
 |.normal=>(∃l',E'=⟨n,ds,l'⟩/\lv l' (news++l.drop k))/\m.Sublist m'/\af=J
 |e=>cw e E' m' af)(ae:cw .normal ⟨n,ds,news++l.drop k⟩ m J):az K B c ⟨n,ds,l⟩ m J cw:=az.cut ad ae
theorem az.aqE{α:Type}{c:Code}{base:List (Nat×Value)}(te:α->List (Nat×Value))(mem:α->aN)(ei:α->aj)(inv:α->Prop)(td:α->Nat)(s:α)(hs:inv s)
 (a7:∀s,inv s->az K B c ⟨n,ds,te s++base⟩ (mem s) (ei s) fun e E m J=>match e with
  |.normal=>∃cM l,inv cM/\td cM<td s/\E=⟨n,ds,l⟩/\lv l (te cM++base)/\(mem cM).Sublist m/\J=ei cM
  |e=>cw e E m J):az K B (.loop c) ⟨n,ds,te s++base⟩ (mem s) (ei s) cw:=
 az.loop (fun s=>te s++base) mem ei inv td a7 s hs
theorem az.aqD{α:Type}{c:Code}{base:List (Nat×Value)}(te:α->List (Nat×Value))(inv:α->Prop)(td:α->Nat)(s:α)(hs:inv s)
 (a7:∀s,inv s->az K B c ⟨n,ds,te s++base⟩ m J fun e E cW bu=>match e with
  |.normal=>∃cM l,inv cM/\td cM<td s/\E=⟨n,ds,l⟩/\lv l (te cM++base)/\m.Sublist cW/\bu=J
  |e=>cw e E cW bu):az K B (.loop c) ⟨n,ds,te s++base⟩ m J cw:=
 az.loop (fun s=>te s++base) (fun _=>m) (fun _=>J) inv td a7 s hs
theorem az.aqF{c:Code}{E:ca}(h:az K B c E m J fun e E m J=>match e with
 |.normal=>az K B (.loop c) E m J cw
 |e=>cw e E m J):az K B (.loop c) E m J cw:=by
 intro S H al aB;obtain⟨e,a4,H1,eJ,cW,bu,ad,ae,aD,a6⟩:=h S H al aB;cases e with
 |normal=>
  have a6:az K B (.loop c) eJ cW bu cw:=a6;obtain⟨bD,aH,H',E',m',af,aW,aT,bo,cu⟩:=a6 a4 H1 ae aD;exact⟨bD,aH,H',E',m',af,dL.aa4 ad aW,aT,bo,cu⟩
 |exit i=>exact⟨_,a4,H1,eJ,cW,bu,dL.wD ad (fun q=>by cases q),ae,aD,a6⟩
 |goto i=>exact⟨_,a4,H1,eJ,cW,bu,dL.wD ad (fun q=>by cases q),ae,aD,a6⟩
 |ret=>exact⟨_,a4,H1,eJ,cW,bu,dL.wD ad (fun q=>by cases q),ae,aD,a6⟩
 |panic c=>exact⟨_,a4,H1,eJ,cW,bu,dL.wD ad (fun q=>by cases q),ae,aD,a6⟩
 |outgrown=>exact⟨_,a4,H1,eJ,cW,bu,dL.wD ad (fun q=>by cases q),ae,aD,a6⟩
theorem gB.app{bc m m':aN}{a:Nat}{b b':dI}(h:gB m a b b' m'):gB (bc++m) a b b' (bc++m'):=by
 induction bc with
 |nil=>exact h
 |cons x bc aP=>exact .tail x aP
theorem W.ei{ops rest:List Oper}{bq:Option (List PanicEntry)->ca->aN->aj->Prop}{E:ca}{a:Nat}{b:dI}{x:List Value×TypeId}(aa:b.rowOf=some x)(h:J.le (J.add a x)->(J.add a x) a=some x->W K B ops rest E m (J.add a x) bq):W K B ops rest E ((a,b)::m) J bq:=by
 intro S H al aB;obtain⟨aW,aT⟩:=aB.ie aa;exact h aT (aj.iE _ _ _) S H al aW
def iL(J:aj)(v:Value)(l:List Int):Prop:=∃e,fR J e 1 v l.length (l.map (Value.int .i64))
theorem iL.mono{af:aj}(hle:J.le af){v:Value}{l:List Int}(h:iL J v l):iL af v l:=by obtain⟨e,h⟩:=h;exact⟨e,h.mono hle⟩
theorem iL.inv{v:Value}{l:List Int}(h:iL J v l):∃b c,v=.slice b l.length c/\(b=none->l=[])/\(0<l.length->∃a off cells e,b=some ⟨a,off,none⟩/\J a=some (cells,e)/\∀(i:Int),0<=i->i<l.length->∃x,l[i.toNat]?=some x/\nth cells (off+i.toNat*1)=some (.int .i64 x)):=by
 obtain⟨e,h⟩:=h;obtain⟨b,c,ad,ae,a6,aD⟩:=fR.inv h;refine⟨b,c,ad,fun q=>oj (a6 q),fun q=>?_⟩;obtain⟨a,off,cells,e,aW,aT,bo⟩:=aD q;refine⟨a,off,cells,e,aW,aT,fun i i0 i1=>?_⟩;have cD:i.toNat<l.length:=by omega
 refine⟨l[i.toNat],ey cD,?_⟩;rw[ha,bo _ (by omega),lC,ey cD];rfl
theorem awp{c:Call}{s:List UInt8}{t:TypeId}(ah:o.op=.call c)(aC:c.callee=.builtin .len)(aF:h4 l c.args.toList=some [.string ⟨⟨s⟩⟩])(aI:c.argTypes.toList=[t])(hs:wA K.P t=true):cY K B o n ds l m J (.int .i64 s.length):=awr ah aC aF aI hs
theorem aeD{t:TypeId}{x dz:Operand}{s:List UInt8}{k:IntKind}{i:Int}{b:UInt8}(ah:o.op=.index t x dz)(aa:bJ l x=some (.string ⟨⟨s⟩⟩))(ak:bJ l dz=some (.int k i))(aI:wA K.P t=true)(aR:0<=i)(ai:s[i.toNat]?=some b):cY K B o n ds l m J (.int .u8 b.toNat):=awn ah aa ak aI aR ai
theorem asJ{α:Type}:∀(L:List α) (k:Nat) (h:k<L.length),(L[k]::L.eraseIdx k).Perm L:=by
 intro L;induction L with
 |nil=>intro k h;cases h
 |cons a L aP=>
  intro k h;cases k with
  |zero=>exact List.Perm.refl _
  |succ k=>exact(List.Perm.swap _ _ _).trans ((aP k (by simpa using h)).cons a)
theorem j9{α:Type}{p:α}{rest L:List α}(k:Nat)(aw:nth L k=some p)(ao:rest.Perm (L.eraseIdx k)):(p::rest).Perm L:=by
 rw[lT] at aw;obtain⟨h,rfl⟩:=ff.1 aw;exact(ao.cons _).trans (asJ L k h)
end
section
variable {K:dR}{B:dv}{n:Nat}{ds:ee}{l:List (Nat×Value)}{m:aN}{J:aj}{cw:Exit->ca->aN->aj->Prop}
structure vf (r:pB) (n:Nat) (params:List Tmp) (assign body:Code) (bH:Nat) (l:List (Nat×Value)):Prop where
 jm:r.state=.ready
 nE:r.n=n
 ps:r.params=params
 bO:r.assign=assign
 sE:r.body=body
 wQ:r.pending=none
 sat:Sat ⟨n,Bs bH,l⟩ ⟨r.T,n,[],false,.run,some bH⟩
theorem vf.again{r:pB}{params:List Tmp}{assign body:Code}{bH:Nat}(h:vf r n params assign body bH l):vf {r with state:=.ready,pending:=none} n params assign body bH l:=⟨rfl,h.nE,h.ps,h.bO,h.sE,rfl,h.sat⟩
end
structure afv (H H':ar):Prop where
 wf:jF H'
 bL:H'.bL=H.bL
 an:H.an<=H'.an
 cy:H.cy<=H'.cy
 gn:∀a,a<H.an->H'.mem.get a=H.mem.get a
 nB:∀f,f<H.cy->H'.bF.get f=H.bF.get f
open Classical in
def ahN (K:dR)(f:FuncId)(bO:List Value)(v:Value)(H:ar):ar:=if h:∃H',jV K.Q f bO H (.returned v) H'/\afv H H' then Classical.choose h else H
abbrev vv:=List (FuncId×List Value×Value)
def ac7:vv->FuncId->Option (List Value×Value)
 |[],_=>none
 |(g,bO,v)::R,f=>bif Nat.beq f g then some (bO,v) else ac7 R f
open Classical in
def C6 (K:dR)(R:vv):eI:=fun f args H=>match ac7 R f with
 |some (bO,v)=>if args=bO then some (.returned v,ahN K f args v H) else none
 |none=>none
def ga(K:dR)(B:dv)(R:vv)(ops:List Oper)(a1:List jo)(E:ca)(m:aN)(J:aj)(bq:ca->aN->aj->Prop):Prop:=
 ∀S H,Sat E S->Inv K.g0 B J m H->∃aH H' E' m' af,dM K.P (hJ K.Q (C6 K R)) (fN K.Q gQ (C6 K R)).aJ ops a1 S H=some (.ok aH H')/\Sat E' aH/\Inv K.g0 B af m' H'/\bq E' m' af
section
variable {K:dR}{B:dv}{R:vv}{ops:List Oper}{a1:List jo}{E:ca}{m m':aN}{J:aj}{o:Oper}{bq:ca->aN->aj->Prop}{cw:Exit->ca->aN->aj->Prop}
variable {n:Nat}{ds:ee}{l:List (Nat×Value)}{d i g:Nat}{want b:Bool}
theorem az.Br(R:vv){id:Nat}{a:Array Oper}(aq:I4 a.toList=none)(bn:Ef a.toList=true)(aw:JM a.toList=a1)(h:ga K B R a.toList a1 E m J fun E m J=>cw .normal E m J):az K B (.region id a true) E m J cw:=by
 intro S H al aB;obtain⟨aH,H',E',m',af,ad,ae,aD,a6⟩:=h S H al aB;refine⟨.normal,aH,H',E',m',af,dL.wK K.cI.re gQ (C6 K R) ?_,ae,aD,a6⟩;show rj (vT K.P (fN K.Q gQ (C6 K R)).call (fN K.Q gQ (C6 K R)).aJ a.toList S H)=_;rw[Kz];unfold vT;rw[aq];show rj (xS K.P (hJ K.Q (C6 K R)) (fN K.Q gQ (C6 K R)).aJ a.toList S H)=_;unfold xS;rw[bn,cd,aw,ad];rfl
theorem ga.nil(h:bq E m J):ga K B R ops [] E m J bq:=fun S H al aB=>⟨S,H,E,m,J,rfl,al,aB,h⟩
theorem ga.split(ai:look l d=some (.bool b))(ad:b=true->ga K B R ops a1 ⟨n,ds,(d,.bool true)::l⟩ m J bq)(aR:b=false->ga K B R ops a1 ⟨n,ds,(d,.bool false)::l⟩ m J bq):ga K B R ops a1 ⟨n,ds,l⟩ m J bq:=by
 intro S H al aB;have key:∀c:Bool,b=c->Sat ⟨n,ds,(d,.bool c)::l⟩ S:=fun c e=>by
  subst e;refine⟨al.n,al.ds,al.bR,al.bg,al.cr,al.has,fun t v q=>?_⟩;have aG:(bif Nat.beq t d then some (Value.bool b) else look l t)=some v:=q;cases bQ:Nat.beq t d with
  |true=>rw[bQ,cd] at aG;obtain rfl:=ez bQ;rw[<-aG];exact al.get _ _ ai
  |false=>rw[bQ,dK] at aG;exact al.get t v aG
 cases b with
 |true=>exact ad rfl S H (key true rfl) aB
 |false=>exact aR rfl S H (key false rfl) aB
theorem ga.aeR{v:Value}(ak:nth ops i=some o)(ea:∀S,Sat ⟨n,ds,l⟩ S->fT ops S.T o=some true)(au:o.dst=some d)(aE:Nat.blt d n=true)(av:cY K B o n ds l m J v)(h:ga K B R ops a1 ⟨n,ds,(d,v)::l⟩ m J bq):ga K B R ops (.val i::a1) ⟨n,ds,l⟩ m J bq:=by
 intro S H al aB;obtain⟨a4,s1,s2⟩:=al.put (dst:=some d) aE v;obtain⟨aH,H',E',m',af,ad,ae,aD,a6⟩:=h a4 H s2 aB;refine⟨aH,H',E',m',af,?_,ae,aD,a6⟩;show jP ops i (lZ K.P _ _ ops S H (dM K.P _ _ ops a1))=_;unfold jP;rw[ak];show lZ K.P _ _ ops S H (dM K.P _ _ ops a1) o=_;unfold lZ;rw[ea S al];show Dh S H o.dst (dM K.P _ _ ops a1) (cz K.P _ _ S H o)=_;rw[av _ _ S H al aB,au];show(bif Nat.beq H.an H.an then px (dM K.P _ _ ops a1) H (S.put (some d) v) else none)=_;rw[hT,cd,s1];exact ad
theorem ga.Ke(ak:nth ops i=some o)(ea:∀S,Sat ⟨n,ds,l⟩ S->fT ops S.T o=some false)(au:o.dst=some d)(aE:Nat.blt d n=true)(h:ga K B R ops a1 ⟨n,ds,(d,undef)::l⟩ m J bq):ga K B R ops (.val i::a1) ⟨n,ds,l⟩ m J bq:=by
 intro S H al aB;obtain⟨a4,s1,s2⟩:=al.put (dst:=some d) aE undef;obtain⟨aH,H',E',m',af,ad,ae,aD,a6⟩:=h a4 H s2 aB;refine⟨aH,H',E',m',af,?_,ae,aD,a6⟩;show jP ops i (lZ K.P _ _ ops S H (dM K.P _ _ ops a1))=_;unfold jP;rw[ak];show lZ K.P _ _ ops S H (dM K.P _ _ ops a1) o=_;unfold lZ;rw[ea S al];show px (dM K.P _ _ ops a1) H (S.put o.dst undef)=_;rw[au,s1];exact ad
theorem als(ay:o.guard=none):∀S,Sat ⟨n,ds,l⟩ S->fT ops S.T o=some true:=fun S al=>by unfold fT;rw[ay]
theorem Yt(ay:lg ops o=some (g,want))(ai:look l g=some (.bool b))(hw:(b==want)=true):∀S,Sat ⟨n,ds,l⟩ S->fT ops S.T o=some true:=fun S al=>by rw[Ex ay (al.get g _ ai),hw]
theorem Q4(ay:lg ops o=some (g,want))(ai:look l g=some (.bool b))(hw:(b==want)=false):∀S,Sat ⟨n,ds,l⟩ S->fT ops S.T o=some false:=fun S al=>by rw[Ex ay (al.get g _ ai),hw]
theorem Q5(ay:lg ops o=some (g,want))(ai:look l g=some undef):∀S,Sat ⟨n,ds,l⟩ S->fT ops S.T o=some false:=fun S al=>YB ay (al.get g _ ai)
theorem ga.val{v:Value}(ak:nth ops i=some o)(ay:o.guard=none)(au:o.dst=some d)(aE:Nat.blt d n=true)(av:cY K B o n ds l m J v)(h:ga K B R ops a1 ⟨n,ds,(d,v)::l⟩ m J bq):ga K B R ops (.val i::a1) ⟨n,ds,l⟩ m J bq:=ga.aeR ak (als ay) au aE av h
theorem ga.Of{v:Value}(ak:nth ops i=some o)(ay:lg ops o=some (g,want))(ai:look l g=some (.bool b))(hw:(b==want)=true)(au:o.dst=some d)(aE:Nat.blt d n=true)(av:cY K B o n ds l m J v)(h:ga K B R ops a1 ⟨n,ds,(d,v)::l⟩ m J bq):ga K B R ops (.val i::a1) ⟨n,ds,l⟩ m J bq:=ga.aeR ak (Yt ay ai hw) au aE av h
theorem ga.Ob(ak:nth ops i=some o)(ay:lg ops o=some (g,want))(ai:look l g=some (.bool b))(hw:(b==want)=false)(au:o.dst=some d)(aE:Nat.blt d n=true)(h:ga K B R ops a1 ⟨n,ds,(d,undef)::l⟩ m J bq):ga K B R ops (.val i::a1) ⟨n,ds,l⟩ m J bq:=ga.Ke ak (Q4 ay ai hw) au aE h
theorem ga.Vh(ak:nth ops i=some o)(ay:lg ops o=some (g,want))(ai:look l g=some undef)(au:o.dst=some d)(aE:Nat.blt d n=true)(h:ga K B R ops a1 ⟨n,ds,(d,undef)::l⟩ m J bq):ga K B R ops (.val i::a1) ⟨n,ds,l⟩ m J bq:=ga.Ke ak (Q5 ay ai) au aE h
theorem e3.of{v u:Value}(ak:nth ops i=some o)(ea:∀S,Sat ⟨n,ds,l⟩ S->fT ops S.T o=some true)(au:o.dst=some d)(av:cY K B o n ds l m J v)(hu:look l d=some u)(he:eg 8 v u=true):e3 K B ops n ds l m J i:=by
 intro call aJ S H al aB;unfold xD;rw[ak];show Lu K.P call aJ ops S H o (fT ops S.T o)=true;rw[ea S al];show Lv H.an S.T o.dst (cz K.P call aJ S H o)=true;rw[av _ _ S H al aB,au];show(Nat.beq H.an H.an&&(match S.T.get d with|some u=>eg 8 v u|none=>false))=true
 rw[hT,al.get d u hu];simpa using he
theorem e3.Of{v u:Value}(ak:nth ops i=some o)(ay:lg ops o=some (g,want))(ai:look l g=some (.bool b))(hw:(b==want)=true)(au:o.dst=some d)(av:cY K B o n ds l m J v)(hu:look l d=some u)(he:eg 8 v u=true):e3 K B ops n ds l m J i:=e3.of ak (Yt ay ai hw) au av hu he
theorem e3.no(ak:nth ops i=some o)(ea:∀S,Sat ⟨n,ds,l⟩ S->fT ops S.T o=some false):e3 K B ops n ds l m J i:=by
 intro call aJ S H al aB;unfold xD;rw[ak];show Lu K.P call aJ ops S H o (fT ops S.T o)=true;rw[ea S al];rfl
theorem ga.b9{is:List Nat}(aC:tx K B ops n ds l m J is)(h:ga K B R ops a1 ⟨n,ds,l⟩ m J bq):ga K B R ops (.b9 is::a1) ⟨n,ds,l⟩ m J bq:=by
 intro S H al aB;obtain⟨aH,H',E',m',af,ad,ae,aD,a6⟩:=h S H al aB;refine⟨aH,H',E',m',af,?_,ae,aD,a6⟩;show Bj K.P _ _ ops S H (dM K.P _ _ ops a1) is=_;unfold Bj;rw[tx.all al aB aC,cd];exact ad
theorem u6{op:BinOp}{t dH:TypeId}{x y:Operand}{a c:Bool}{v:Value}(ah:o.op=.binOp op t x y dH)(aa:bJ l x=some (.bool a))(ap:bJ l y=some (.bool c))(eu:op=.eql/\v=.bool (decide (a=c))\/op=.neq/\v=.bool (decide (¬a=c)))(aI:K.P.underlying t=some .bool):cY K B o n ds l m J v:=by
 intro call aJ S H al aB;unfold cz e4;simp only[ah];show lU K.P _ op t (a3 S.T H x) (a3 S.T H y)=_;rw[de al H aa,de al H ap];show orElse (fl K.P S.T H o) _=_;have B2:eR K.P (Op.equal t (.bool a) (.bool c))=some (decide (a=c)):=by
  show eR K.P (Op.equalIn (9999+1) t (.bool a) (.bool c))=_;unfold Op.equalIn;rw[eL (Bx aI)];show some (a==c)=_;cases a<;>cases c<;>rfl
 have:fl K.P S.T H o=some (.val v H):=by
  rcases eu with⟨rfl,rfl⟩|⟨rfl,rfl⟩
  ·refine pt al (by rw[ah];rfl) aa ap rfl rfl ?_ rfl;unfold execOp;simp only[ah];rw[hK al H aa,hK al H ap];have ai:binOp .eql t (.bool a) (.bool c)=(do pure (.bool (<-Op.equal t (.bool a) (.bool c)))):=by simp[binOp]
   have ay:eR K.P (eqGuard .eql t x y (.bool a) (.bool c))=some ():=rfl;rw[eL (a:=.bool (decide (a=c)))]
   ·rfl
   rw[eL ay,ai,eL B2];rfl
  ·refine pt al (by rw[ah];rfl) aa ap rfl rfl ?_ rfl;unfold execOp;simp only[ah];rw[hK al H aa,hK al H ap];have ai:binOp .neq t (.bool a) (.bool c)=(do pure (.bool (!(<-Op.equal t (.bool a) (.bool c))))):=by simp[binOp]
   have ay:eR K.P (eqGuard .neq t x y (.bool a) (.bool c))=some ():=rfl;rw[eL (a:=.bool (decide (¬a=c)))]
   ·rfl
   rw[eL ay,ai,eL B2];show some (Value.bool (!decide (a=c)))=_;rw[show(!decide (a=c))=decide (¬a=c) by simp]
 rw[this];rfl
theorem aeS(b:Bool)(n:Nat):eg (n+1) (.bool b) (.bool b)=true:=by cases b<;>rfl
theorem iL.get{gI:Option Addr}{Ji vG:Nat}{N:List Int}(h:iL J (.slice gI Ji vG) N):Ji=N.length/\(gI=none->N=[])/\(0<N.length->∃a off cells e,gI=some ⟨a,off,none⟩/\J a=some (cells,e)/\∀(i:Int),0<=i->i<N.length->∃x,N[i.toNat]?=some x/\nth cells (off+i.toNat*1)=some (.int .i64 x)):=by
 obtain⟨b,c,ad,ae,aD⟩:=h.inv;injection ad with a6 eM fH
 subst a6;subst eM;subst fH;exact⟨rfl,ae,aD⟩
end
section
variable {K:dR}{B:dv}{ops:List Oper}{a1:List jo}{E:ca}{m m':aN}{J:aj}{o:Oper}{bq:ca->aN->aj->Prop}{cw:Exit->ca->aN->aj->Prop}
variable {n:Nat}{ds:ee}{l:List (Nat×Value)}{d i:Nat}
end
section
variable {K:dR}{B:dv}{ops:List Oper}{a1:List jo}{F:List (FuncId×List Value)}{m m':aN}{J:aj}{o:Oper}{bq:ca->aN->aj->Prop}
variable {n:Nat}{ds:ee}{l:List (Nat×Value)}{d i:Nat}
theorem asE{S:aZ}(al:Sat ⟨n,ds,l⟩ S):∀{xs:List (Nat×Operand)} {vs:List (Nat×Value)},tX l xs=some vs->ti S.T xs=some vs:=by
 intro xs;induction xs with
 |nil=>intro vs h;exact h
 |cons x r aP=>
  obtain⟨i,x⟩:=x;intro vs h;simp only[tX] at h;simp only[ti];cases aa:bJ l x with
  |none=>rw[aa] at h;cases h
  |some v=>
   rw[aa] at h;simp only at h;rw[Uf al aa];simp only;cases ao:tX l r with
   |none=>rw[ao] at h;cases h
   |some ws=>rw[ao] at h;simp only at h;rw[aP ao];exact h
theorem ct.buildSlice{t e:TypeId}{k sz:Nat}{gz cells:List Value}{ps:Array (Nat×Operand)}{vs:List (Nat×Value)}(ak:nth ops i=some o)(ay:o.guard=none)(ah:o.op=.buildSlice t k ps)(au:o.dst=some d)(aE:Nat.blt d n=true)(aw:tX l ps.toList=some vs)(aI:mN K.P t=some (e,sz,gz))(hk:(Nat.ble k 100000&&Nat.ble (k*sz) 100000)=true)(aA:nX (fun i=>some (i*sz,sz)) (fM gz k) vs=some cells)(ad:cells.all fh=true)
 (h:∀a,ct K B ops a1 F ⟨n,ds,(d,.slice (some ⟨a,0,none⟩) k k)::l⟩ ((a,.row cells e)::m) J bq):ct K B ops (.kG i::a1) F ⟨n,ds,l⟩ m J bq:=by
 obtain⟨hu,eb,ju,z,h9,aM,a',rfl,bf,bV,dx⟩:=u0 aI;refine ct.kG (b:=.row cells e false 0 0 false) (p:=.row cells e) (eD:=.C' k k) ak ay au aE (fun S al=>?_) (fun H a q=>q) (fun c e r z q=>by cases q) h;rw[ah];simp only[nT];rw[asE al aw];simp only[GG,hu,eb,aM];rw[hk,dx,show Nat.beq z.cells.toList.length sz=true by rw[bf];exact hT _];simp only[w4,cd,aA,ad]
theorem Acc.form{e:TypeId}{sz k:Nat}{v:Value}{cells:List Value}{bc:aN}(h:Acc e sz v k cells bc):∃b c,v=.slice b k c:=by
 cases h with
 |nil=>exact⟨_,_,rfl⟩
 |jH a=>exact⟨_,_,rfl⟩
 |opn h=>exact⟨_,_,rfl⟩
 |cap=>exact⟨_,_,rfl⟩
end
end
end Go.Opn

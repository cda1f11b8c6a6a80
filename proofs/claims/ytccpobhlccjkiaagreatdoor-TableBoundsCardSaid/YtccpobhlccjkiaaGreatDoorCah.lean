/- A part of the proof of TableBounds. -/
import Derived.Test.YtccpobhlccjkiaaGreatDoorCag
import Derived.ChangeArms
import Derived.DataReads
import Derived.Carry
import Derived.ChangeSame
import Derived.OpenShut
import Derived.Test.YtccpobhlccjkiaaGreatDoorProg
import Derived.KernelRfl
set_option linter.defProp false
set_option linter.unusedVariables false
set_option linter.unusedSimpArgs false
set_option maxRecDepth 100000
namespace Go.Opn
noncomputable section
open Go.Cre Go.RowKit
open Classical
section
variable {K:dW}{B:dN}{o:Oper}{n:Nat}{ds:er}{l:List (Nat×Value)}{m m':aJ}{J:ai}{fe:bY->aJ->ai->Prop}{d:Nat}{cp:Exit->bY->aJ->ai->Prop}
def mO(K:dW)(f:FuncId)(args:List Value)(a1:aJ)(J:ai)(hW:Value->aJ->ai->Prop)(fX:List PanicEntry->aJ->ai->Prop):Prop:=
 ∀H,Inv K.g0 (iJ a1 H J) J a1 H->∃H' ah m',Inv K.g0 (iJ a1 H J) ah m' H'/\((∃v,j5 K.Q f args H (.returned v) H'/\hW v m' ah)\/∃bx,j5 K.Q f args H (.panicked bx) H'/\fX bx m' ah)
def uU(K:dW)(bK:Nat)(args:List Value)(a1:aJ)(J:ai)(hW:Value->aJ->ai->Prop)(fX:List PanicEntry->aJ->ai->Prop):Prop:=
 ∀H,Inv K.g0 (iJ a1 H J) J a1 H->∃H' ah m' gg cg,Inv K.g0 (iJ a1 H J) ah m' H'/\((∃v,(fW K.Q gg cg).aO bK args H=some (.returned v,H')/\hW v m' ah)\/∃bx,(fW K.Q gg cg).aO bK args H=some (.panicked bx,H')/\fX bx m' ah)
def ahO{S:aY}{H:aw}{gg:Code->aY->aw->Option (Exit×aY×aw)}{cg:eW}{c:Call}{x:Operand}{bK:Nat}{args:List Value}(au:Sat ⟨n,ds,l⟩ S)
 (al:o.op=.call c)(ax:c.callee=.value x)(U:bS l x=some (.func (.yield bK) #[] #[]))(aI:jH l c.args.toList=some args):cA K.P (hY K.Q cg) (fW K.Q gg cg).aO S H o=GF ((fW K.Q gg cg).aO bK args H):=by
 unfold cA fi;simp only[al];show kN K.P _ c=_;unfold kN;rw[ax];show nj K.P _ _ S.T H c=_;unfold nj;rw[pQ au H aI];simp only[ax];rw[dw au H U];rfl
def BR(bK:Nat):er:=⟨[],some bK,false,.run⟩
def PS:List Tmp->List Value->List (Nat×Value)->List (Nat×Value)
 |t::ts,v::vs,l=>PS ts vs ((t,v)::l)
 |_,_,l=>l
def aw5{e0:er}:∀{ts:List Tmp} {vs:List Value} {l:List (Nat×Value)} {T:aZ Value},wI n ts=true->ts.length=vs.length->Sat ⟨n,e0,l⟩ ⟨T,n,e0.ds,e0.bQ,e0.bg,e0.cx⟩->∃ea,vR T ts vs=some ea/\Sat ⟨n,e0,PS ts vs l⟩ ⟨ea,n,e0.ds,e0.bQ,e0.bg,e0.cx⟩:=by
 intro ts;induction ts with
 |nil=>intro vs l T _ h au;cases vs with
  |nil=>exact⟨T,I,au⟩
  |cons=>cases h
 |cons t ts aC=>
  intro vs l T ak h au;cases vs with
  |nil=>cases h
  |cons v vs=>
   simp only[wI,gQ] at ak;obtain⟨a3,s1,s2⟩:=au.put (dst:=some t) ak.1 v;have cq:∃rj,aZ.put v T t=some rj/\a3=⟨rj,n,e0.ds,e0.bQ,e0.bg,e0.cx⟩:=by
    have s1:Bool.rec (motive:=fun _=>Option aY) none (aY.r3 n e0.ds e0.bQ e0.bg e0.cx (aZ.put v T t)) (Nat.ble (Nat.succ t) n)=some a3:=s1;have sJ:Nat.ble (Nat.succ t) n=true:=by simpa[Nat.blt] using ak.1
    rw[sJ] at s1;cases ap:aZ.put v T t with
    |none=>rw[ap] at s1;cases s1
    |some rj=>rw[ap] at s1;injection s1 with s1;exact⟨rj,I,s1.symm⟩
   obtain⟨rj,t1,rfl⟩:=cq;obtain⟨ea,aF,aV⟩:=aC (l:=(t,v)::l) ak.2 (by simpa using h) s2;refine⟨ea,?_,aV⟩;simp only[vR,aZ.set];rw[t1];exact aF
def uU.of{bK:Nat}{r:qj}{L:List (Nat×Value)}{args:List Value}{a1:aJ}{hW:Value->aJ->ai->Prop}{fX:List PanicEntry->aJ->ai->Prop}(ar:r.state=.ready)(Cp:(bK,.loop r)∈a1)(cq:Sat ⟨r.n,BR bK,L⟩ ⟨r.T,r.n,[],false,.run,some bK⟩)(Nt:wI r.n r.params=true)(hlen:r.params.length=args.length)
 (h:∀H,aK K (iJ a1 H J) r.assign ⟨r.n,BR bK,PS r.params args L⟩ a1 J fun e E m bj=>e=.normal/\∃cz,fY m bK (.loop r) (.loop {r with state:=.busy}) cz/\
  aK K (iJ a1 H J) r.body E cz bj fun e E m c3=>(∃j c9 cX lO,FF e=some j/\fY m bK (.loop c9) (.loop {c9 with state:=if j.isNone then .ready else .done,pending:=j}) cX/\lO.Sublist cX/\hW (.bool j.isNone) lO c3)\/
   ∃bx lO,e=.panic bx/\E.ds.ds=[]/\lO.Sublist m/\fX bx lO c3):uU K bK args a1 J hW fX:=by
 intro H aD;obtain⟨ea,dj,ht⟩:=aw5 (e0:=BR bK) Nt hlen cq;obtain⟨e,a3,H1,e8,cz,bj,bb,bt,cE,rfl,cX,fZ,dJ⟩:=h H _ H ht aD;have bb:dR K.Q r.assign ⟨ea,r.n,[],false,.run,some bK⟩ H .normal a3 H1:=bb;have ca:H1.mem.get bK=some (.loop r):=(cE.own _ _ fZ.mem).1;obtain⟨bT,fK⟩:=cE.wf.upd (.loop {r with state:=.busy}) (cE.lt fZ.mem);have IH:=cE.upd fZ fK (by show bT.mem.get bK=_;rw[(aw.r7 fK).2.2.2.2,aP I]);obtain⟨aV,wE,fL,aBr,lO,e3,d1,d2,d3,d0⟩:=dJ a3 bT bt IH;have aB:H.mem.get bK=some (.loop r):=(aD.own _ _ Cp).1;have qK:Nat.ble H.bJ bK=true:=nc (by have:=(aD.own _ _ Cp).2.2.2;have:=aD.bJ;omega);have key:∀m6,PO bK (some (aV,wE,fL))=m6->(fW K.Q (VV r.assign ⟨ea,r.n,[],false,.run,some bK⟩ H (.normal,a3,H1) r.body a3 bT (aV,wE,fL)) lP).aO bK args H=m6:=fun m6 pr=>by
  show(match H.mem.get bK with
   |some (.loop r)=>bif Nat.ble H.bJ bK&&wI r.n r.params then ahQ _ bK r H (vR r.T r.params args) else none
   |_=>none)=_
  rw[aB];simp only
  rw[qK,Nt,zM,cd,dj];show Xg _ bK r.body (su K.Q _ r.assign ⟨ea,r.n,[],false,.run,some bK⟩ H)=_;rw[Rk bb (by unfold VV;rw[aP ⟨I,I,I⟩])];show KZ _ bK r.body a3 H1=_;unfold KZ;rw[ca];simp only[ar];rw[fK];show PO bK (su K.Q _ r.body a3 bT)=_;rw[Rk d1 (by
   unfold VV;split
   ·rename_i q;obtain⟨aN,aH,bo⟩:=q;subst bo;rw[(aw.r7 fK).2.2.2.2,aP I] at aB;injection aB with aB;injection aB with aB
    have:=dh qj.state aB;rw[ar] at this;cases this
   ·rw[aP ⟨I,I,I⟩])]
  exact pr
 rcases d0 with⟨j,c9,o0,vE,d4,d5,d6,d7⟩|⟨bx,vE,rfl,d5,d6,d7⟩
 ·have cw:fL.mem.get bK=some (.loop c9):=(d3.own _ _ d5.mem).1;obtain⟨lc,iO⟩:=d3.wf.upd (.loop {c9 with state:=if j.isNone then .ready else .done,pending:=j}) (d3.lt d5.mem);have II:=d3.upd d5 iO (by show lc.mem.get bK=_;rw[(aw.r7 iO).2.2.2.2,aP I]);refine⟨lc,e3,vE,_,_,II.sub d6,.inl ⟨.bool j.isNone,key _ ?_,d7⟩⟩;show(match FF aV with|some j=>Dy fL bK j|none=>K0 fL aV wE.ds)=_
  rw[d4];show Dy fL bK j=_;unfold Dy;rw[cw];simp only[iO];rfl
 ·refine⟨fL,e3,vE,_,_,d3.sub d6,.inr ⟨bx,key _ ?_,d7⟩⟩;show K0 fL (.panic bx) wE.ds=_;rw[d2.ds,d5];rfl
def aeR(cp:Exit->bY->aJ->ai->Prop)(E:bY)(m:aJ)(J:ai):Option Code->Prop
 |none=>cp .normal E m J
 |some .ret=>cp .ret E m J
 |some (.exit id)=>cp (.exit id) E m J
 |some _=>False
def er.plus(e0:er)(r:Nat):er:=⟨{target:=.collected r,args:=#[]}::e0.ds,e0.cx,e0.bQ,e0.bg⟩
def aK.axu{f:Operand}{params:Array Tmp}{assign body:Code}{g:FuncId}{first cap:Array Value}(vy:ds.cx=none)(ay:bS l f=some (.func (.func g) first cap))
 (h:∀ja bK (T:aZ Value),Sat ⟨n,BR bK,l⟩ ⟨T,n,[],false,.run,some bK⟩->∃a1 cB dI fX,(a1++cB).Perm ((bK,.loop ⟨.ready,none,T,n,params.toList,assign,body,ja⟩)::(ja,.g6)::m)/\AR a1/\
  mO K g ((first.toList++[.func (.yield bK) #[] #[]])++cap.toList) a1 J dI fX/\(∀bx m' ah,J.le ah->fX bx m' ah->cp (.panic bx) ⟨n,ds.plus ja,l⟩ (m'++cB) ah)/\∀v m' ah,J.le ah->dI v m' ah->∃cu ki,fY (m'++cB) bK (.loop cu) (.loop {cu with state:=.exhausted}) ki/\cu.state≠.busy/\aeR cp ⟨n,ds.plus ja,l⟩ ki ah cu.pending):
 aK K B (.rangeFunc f params assign body) ⟨n,ds,l⟩ m J cp:=by
 intro S H au aD;obtain⟨H1,aF⟩:=aD.wf.new (.g6 (some []));have IG:=aD.new (p:=.g6) aF (by show H1.mem.get H.ao=_;rw[(aw.p4 aF).2.2.2.2.2,aP I]);obtain⟨bT,aV⟩:=IG.wf.new (.loop ⟨.ready,none,S.T,S.n,params.toList,assign,body,H.ao⟩);have aA:S.n=n:=au.n;have IH:=IG.new (p:=.loop ⟨.ready,none,S.T,n,params.toList,assign,body,H.ao⟩) aV (by show bT.mem.get H1.ao=_;rw[(aw.p4 aV).2.2.2.2.2,aP I,aA]);have arU:Sat ⟨n,BR H1.ao,l⟩ ⟨S.T,n,[],false,.run,some H1.ao⟩:=⟨I,I,I,I,I,au.has,au.get⟩;obtain⟨a1,cB,dI,fX,dj,ht,jx,hQ,m3⟩:=h H.ao H1.ao S.T arU;obtain⟨fL,e3,lO,aH,afg⟩:=jx bT (IH.enter dj ht);obtain⟨db,fH⟩:=IH.leave dj aH;have M2:Sat ⟨n,ds.plus H.ao,l⟩ {S with ds:={target:=.collected H.ao,args:=#[]}::S.ds}:=⟨au.n,by show _::_=_::_;rw[au.ds],au.bQ,au.bg,au.cx,au.has,au.get⟩;have ac4:∀cP m6,j5 K.Q g ((first.toList++[.func (.yield H1.ao) #[] #[]])++cap.toList) bT cP fL->O5 {S with ds:={target:=.collected H.ao,args:=#[]}::S.ds} H1.ao (some (cP,.run,fL))=some m6->dR K.Q (.rangeFunc f params assign body) S H m6.1 m6.2.1 m6.2.2:=fun cP m6 aN pr=>by
  refine dR.xH K.cZ.r1 g7 (lD g ((first.toList++[.func (.yield H1.ao) #[] #[]])++cap.toList) bT (cP,fL)) ?_;show EF K.P _ f params assign body S H=_;unfold EF Kv;rw[show S.cx=none from au.cx.trans vy] at pr ⊢;simp only[aF,aV];rw[dw au bT ay];unfold afk;simp only[kY];show O5 _ H1.ao ((fW K.Q _ _).body g _ false .run bT)=_;have ak:(fW K.Q g7 (lD g ((first.toList++[.func (.yield H1.ao) #[] #[]])++cap.toList) bT (cP,fL))).body g ((first.toList++[.func (.yield H1.ao) #[] #[]])++cap.toList) false .run bT=some (cP,.run,fL):=by
   unfold fW;simp only[zN,y8];rw[Ac aN (by unfold lD;rw[aP ⟨I,I,I⟩])]
  rw[ak];exact pr
 rcases afg with⟨v,aN,bo⟩|⟨bx,aN,bo⟩
 case inr=>exact⟨_,_,_,_,_,_,ac4 _ (.panic bx,_,fL) aN I,M2,db,hQ _ _ _ fH bo⟩
 obtain⟨cu,o0,s1,s2,jZ⟩:=m3 v lO e3 fH bo;have cw:fL.mem.get H1.ao=some (.loop cu):=(db.own _ _ s1.mem).1;obtain⟨lc,iO⟩:=db.wf.upd (.loop {cu with state:=.exhausted}) (db.lt s1.mem);have II:=db.upd s1 iO (by show lc.mem.get H1.ao=_;rw[(aw.r7 iO).2.2.2.2,aP I]);have key:∀m6,V8 {S with ds:={target:=.collected H.ao,args:=#[]}::S.ds} cu.pending lc=some m6->dR K.Q (.rangeFunc f params assign body) S H m6.1 m6.2.1 m6.2.2:=fun m6 pr=>by
  refine ac4 _ m6 aN ?_;show Ku _ H1.ao fL=_;unfold Ku;rw[cw];simp only
  cases c4:cu.state with
  |busy=>exact absurd c4 s2
  |ready=>simp only[iO];exact pr
  |done=>simp only[iO];exact pr
  |exhausted=>simp only[iO];exact pr
 cases rM:cu.pending with
 |none=>rw[rM] at jZ key;exact⟨_,_,_,_,_,_,key _ I,M2,II,jZ⟩
 |some c=>
  rw[rM] at jZ key;cases c with
  |ret=>exact⟨_,_,_,_,_,_,key _ I,M2,II,jZ⟩
  |exit id=>exact⟨_,_,_,_,_,_,key _ I,M2,II,jZ⟩
  |_=>exact absurd jZ id
def Inv.drop{g0 a:Nat}{b:df}{c:fP}{H H1:aw}(h:Inv g0 B J m H)(ap:((a,b)::m').Perm m)(aF:H.upd a c=some H1):Inv g0 B J m' H1:=by
 have h:=h.perm ap.symm;obtain⟨aX,aT,bd,cm⟩:=h.own a b (.head _);have cI:=h.lt (.head _);have eb:=h.gZ;rw[show ids ((a,b)::m')=a::(b.rest++ids m') from I,uL,mm] at eb;obtain⟨bH,c2,fb,gf,hP⟩:=aw.r7 aF;refine⟨h.wf.Pz cI aF,gf.trans h.bJ,by rw[bH];exact h.ao,by rw[fb];exact h.cC,fun x U eO=>?_,fun f ay=>by rw[c2];exact h.oe f ay,fun x c e aW=>?_,h.le,h.fresh,fun x b ak=>?_,fun x b ak y an=>by rw[bH];exact h.opn x b (.tail _ ak) y an,(DV _ _).nodup eb.2⟩
 ·rw[hP,aG (fun q=>by subst q;rcases aT with q|q;·omega
                      ·exact eO q)]
  exact h.fU x U eO
 ·obtain⟨o,f,z,s,q⟩:=h.eG x c e aW
  exact⟨o,f,z,s,by rw[hP,aG (fun r=>by subst r;rw[bd] at aW;cases aW)];exact q⟩
 ·obtain⟨eR,eo,kJ,m0⟩:=h.own x b (.tail _ ak)
  exact⟨df.yg eR (by rw[hP,aG (fun q=>eb.1 (by subst q;exact .inr (AJ ak)))]) (fun f l ay=>by rw[c2];exact ay),eo,kJ,m0⟩
inductive By:List Deferred->aJ->aJ->Prop
 |nil (m:aJ):By [] m m
 |Er {r:Nat} {dl:List Deferred} {m cz cX:aJ}:((r,.g6)::cz).Perm m->By dl cz cX->By ({target:=.collected r,args:=#[]}::dl) m cX
def By.afP{E':gu}{fn:Func}{T:aZ Value}{dl:List Deferred}{cX:aJ}{u:FrameMode}(hu:JK u=false)(h:By dl m cX):∀{H:aw},Inv K.g0 B J m H->∃H',Inv K.g0 B J cX H'/\∀r,ig K.P E' fn T [] u H'=r->ig K.P E' fn T dl u H=r:=by
 induction h with
 |nil m=>intro H aD;exact⟨H,aD,fun r q=>q⟩
 |@Er r dl m cz cX ap _ aC=>
  intro H aD;have qL:(r,df.g6)∈m:=ap.subset (.head _);obtain⟨aX,aT,bd,cm⟩:=aD.own _ _ qL;have aX:H.mem.get r=some (.g6 (some [])):=aX;obtain⟨H1,aF⟩:=aD.wf.upd (.g6 none) (aD.lt qL);obtain⟨H',aN,aH⟩:=aC (aD.drop ap aF);refine⟨H',aN,fun cu ar=>?_⟩;have:=aH cu ar;show ig K.P E' fn T ({target:=.collected r,args:=#[]}::dl) u H=cu;unfold ig;simp only[hu,dQ,aX];rw[show Nat.ble H.bJ r=true from nc (by have:=aD.bJ;omega),cd,aF];exact this
def Fn.OD{f:FuncId}{fn:Func}{c:Code}{args:List Value}{a1:aJ}{dI:Value->aJ->ai->Prop}(ay:K.fR.get f=some fn)(ak:fn.body=some c)(aj:Nat.ble args.length fn.ntmps=true)
 (h:∀H,aK K (iJ a1 H J) c ⟨fn.ntmps,Ag,uX args 0⟩ a1 J fun e E m ah=>(e=.normal\/e=.ret)/\∃cz vs m',By E.ds.ds m cz/\nN K.P E cz ah fn.results.toList vs/\m'.Sublist cz/\dI (p6 vs) m' ah):Fn K f args a1 J dI:=by
 intro H aD;obtain⟨T,ba,br,bG⟩:=QH (vs:=args) (i:=0) (n:=fn.ntmps) (QQ fn.ntmps) (by have:=iE aj;omega);have au:Sat ⟨fn.ntmps,Ag,uX args 0⟩ ⟨T,fn.ntmps,[],false,.run,none⟩:=by
  refine⟨I,I,I,I,I,br,fun t v q=>?_⟩;obtain⟨_,aH⟩:=QF q;show T.get t=some v;have:t<args.length:=by
   rcases ha t args.length with r|r
   ·exact r
   ·rw[jq (by omega)] at aH;cases aH
  rw[bG,aP (by omega)];exact aH
 obtain⟨e,aL,H',E',e1,ah,aX,aT,bd,cm,cz,vs,m',fz,kh,rX,ua⟩:=h H _ H au aD;obtain⟨bT,aN,aH⟩:=fz.afP (u:=.returning) I (E':=fW K.Q (lE c ⟨T,fn.ntmps,[],false,.run,none⟩ H (e,aL,H')) lP) (fn:=fn) (T:=aL.T) bd;refine⟨p6 vs,bT,ah,m',?_,aN.sub rX,ua⟩;refine j5.run K.cZ ay ak ba aX (bg:=aL.bg) ?_;have ar:=kh.Ai aT aN;have oU:=aH (some (.returned (p6 vs),bT)) (by unfold ig;rw[ar]);rcases cm with rfl|rfl
 ·show rq aL.bg (ig K.P _ fn aL.T aL.ds .returning H')=_;rw[aT.ds,oU];rfl
 ·show rq aL.bg (ig K.P _ fn aL.T aL.ds .returning H')=_;rw[aT.ds,oU];rfl
end
def aeQ{P:Program}{t:TypeId}{cs:Array Value}{off:Nat}{v:Value}{k:IntKind}(hu:P.underlying t=some (.int k))(h:cs[off]?=some v):fw P (part t cs off)=some v:=by
 unfold part;rw[e' (a:=false)]
 ·show fw P (match cs[off]? with|some v=>pure v|none=>stuck "part: no such cell")=_
  rw[h];rfl
 ·unfold isAgg;rw[e' (BV hu)];rfl
def eq_int{P:Program}{t:TypeId}{k:IntKind}{n:Nat}{a b:Int}(hu:P.underlying t=some (.int k)):fw P (Op.equalIn (n+1) t (.int .i64 a) (.int .i64 b))=some (decide (a=b)):=by
 unfold Op.equalIn;rw[e' (BV hu)];show fw P (if IntKind.i64=IntKind.i64 then pure (a==b) else _)=_;rw[aP I];show some (a==b)=_;rw[show(a==b)=decide (a=b) from I]
def atU{P:Program}{n:Nat}{xs ys:Array Value}:∀(gi:List Field) (bP bs:List Int) (k:Nat),gi.length=bP.length->bP.length=bs.length->(∀i f,gi[i]?=some f->f.name≠ "_"/\P.underlying f.type=some (.int .i64)/\f.offset=k+i)->(∀i a,bP[i]?=some a->xs[k+i]?=some (.int .i64 a))->(∀i a,bs[i]?=some a->ys[k+i]?=some (.int .i64 a))->
 fw P (forIn gi ((none,()):Option Bool×Unit) fun f aBE=>
        if f.name≠ "_" then do
           let BC <-part f.type xs f.offset
           let Qs <-part f.type ys f.offset
           let BC <-Op.equalIn (n+1) f.type BC Qs
           if(!BC)=true then pure (ForInStep.done (some false,()))
             else pure (ForInStep.yield (none,()))
        else pure (ForInStep.yield (none,())))=some (if bP=bs then none else some false,()):=by
 intro gi;induction gi with
 |nil=>
  intro bP bs k ae ag _ _ _;obtain rfl:bP=[]:=mQ (by simpa using ae.symm);obtain rfl:bs=[]:=mQ (by simpa using ag.symm);rfl
 |cons f gi aC=>
  intro bP bs k ae ag ay U an;cases bP with
  |nil=>cases ae
  |cons a bP=>
   cases bs with
   |nil=>cases ag
   |cons b bs=>
    obtain⟨f1,f2,f3⟩:=ay 0 f I;rw[List.forIn_cons]
    have bn:fw P (if f.name≠ "_" then do
             let BC <-part f.type xs f.offset
             let Qs <-part f.type ys f.offset
             let BC <-Op.equalIn (n+1) f.type BC Qs
             if(!BC)=true then pure (ForInStep.done ((some false,()):Option Bool×Unit))
              else pure (ForInStep.yield (none,()))
            else pure (ForInStep.yield (none,())))=some (if a=b then ForInStep.yield (none,()) else ForInStep.done (some false,())):=by
     rw[aP f1,e' (aeQ f2 (by rw[f3];exact U 0 a I)),e' (aeQ f2 (by rw[f3];exact an 0 b I)),e' (eq_int f2)];by_cases hr:a=b
     ·simp[hr];rfl
     ·simp[hr];rfl
    rw[e' bn];by_cases hr:a=b
    ·rw[aP hr]
     simp only
     rw[aC bP bs (k+1) (by simpa using ae) (by simpa using ag) (fun i g aB=>by obtain⟨ca,b7,cw⟩:=ay (i+1) g aB;exact⟨ca,b7,by omega⟩) (fun i c ax=>by have:=U (i+1) c ax;rwa [show k+(i+1)=k+1+i by omega] at this) (fun i c ax=>by have:=an (i+1) c ax;rwa [show k+(i+1)=k+1+i by omega] at this)];simp[hr]
    ·rw[aG hr]
     simp only
     rw[aG (by intro q;injection q with aN aH;exact hr aN)];rfl
def Hk (P:Program):List Field->Nat->Bool
 |[],_=>true
 |f::gi,k=>!(f.name== "_")&&(match P.underlying f.type with|some (.int .i64)=>true|_=>false)&&Nat.beq f.offset k&&Hk P gi (k+1)
def NV (P:Program)(t:TypeId):Option Nat:=match P.underlying t with
 |some (.struct fields)=>bif Hk P fields.toList 0&&!P.stoodInHeld t&&!P.eqGuardType P.depth t then some fields.toList.length else none
 |_=>none
def ajm{P:Program}:∀{gi:List Field} {k:Nat},Hk P gi k=true->∀i f,gi[i]?=some f->f.name≠ "_"/\P.underlying f.type=some (.int .i64)/\f.offset=k+i:=by
 intro gi;induction gi with
 |nil=>intro k _ i f h;simp at h
 |cons g gi aC=>
  intro k h i f ay;simp only[Hk,gQ] at h;obtain⟨⟨⟨ae,ag⟩,aE⟩,a6⟩:=h;cases i with
  |zero=>
   simp at ay;subst ay;refine⟨by simpa using ae,?_,by have:=eM aE;omega⟩;split at ag
   ·assumption
   ·cases ag
  |succ i=>
   obtain⟨aN,aH,bo⟩:=aC a6 i f (by simpa using ay);exact⟨aN,aH,by omega⟩
def am0{P:Program}{t:TypeId}{k n:Nat}{bP bs:List Int}(aM:NV P t=some k)(aI:bP.length=k)(ak:bs.length=k):fw P (Op.equalIn (n+1+1) t (.agg (bP.map (Value.int .i64)).toArray) (.agg (bs.map (Value.int .i64)).toArray))=some (decide (bP=bs))/\P.eqGuardType P.depth t=false/\∃gi,P.underlying t=some (.struct gi):=by
 unfold NV at aM;split at aM
 ·rename_i fields hu;cases ax:(Hk P fields.toList 0&&!P.stoodInHeld t&&!P.eqGuardType P.depth t) with
  |false=>rw[ax] at aM;cases aM
  |true=>
   rw[ax,cd] at aM;injection aM with aM
   simp only[gQ,tj] at ax;obtain⟨⟨bb,bt⟩,cE⟩:=ax;refine⟨?_,cE,fields,hu⟩;unfold Op.equalIn;rw[e' (BV hu)];simp only
   simp only[<-Array.forIn_toList];rw[e' (a:=P) I];rw[aG (by simp[bt])];have aj:=atU (P:=P) (n:=n) (xs:=(bP.map (Value.int .i64)).toArray) (ys:=(bs.map (Value.int .i64)).toArray) fields.toList bP bs 0 (by omega) (by omega) (fun i f ay=>by have:=ajm bb i f ay;exact this) (fun i a q=>by simp[q]) (fun i a q=>by simp[q]);rw[e' aj];by_cases hr:bP=bs
   ·simp[hr];rfl
   ·simp[hr];rfl
 ·cases aM
section
variable {K:dW}{B:dN}{o:Oper}{n:Nat}{ds:er}{l:List (Nat×Value)}{m m':aJ}{J:ai}{fe:bY->aJ->ai->Prop}{d:Nat}
def aAj{op:BinOp}{t eE:TypeId}{x y:Operand}{k:Nat}{la bs:List Int}{xs ys:Array Value}{b:Bool}(al:o.op=.binOp op t x y eE)(eF:op=.eql/\b=decide (la=bs)\/op=.neq/\b=decide (¬la=bs))(U:bS l x=some (.agg xs))(an:bS l y=some (.agg ys))(aM:NV K.P t=some k)(asC:xs=(la.map (Value.int .i64)).toArray)(asG:ys=(bs.map (Value.int .i64)).toArray)(aI:la.length=k)(ak:bs.length=k):dr K B o n ds l m J (.bool b):=by
 subst asC;subst asG;obtain⟨ae,ag,gi,aE⟩:=am0 (n:=9998) aM aI ak;intro call aO S H au aD;have dX:∀gA:List Int,plain (.agg (gA.map (Value.int .i64)).toArray)=true:=fun gA=>by
  show(gA.map (Value.int .i64)).all (jz 7)=true;rw[List.all_map,sf];intro i _;rfl
 unfold cA fi;simp only[al];show mG K.P _ op t (a5 S.T H x) (a5 S.T H y)=_;rw[dw au H U,dw au H an];show orElse (fQ K.P S.T H o) _=_;have:fQ K.P S.T H o=some (.val (.bool b) H):=by
  refine p9 au (by rw[al];rfl) U an (dX _) (dX _) ?_ I;unfold execOp;simp only[al];rw[jb au H U,jb au H an];rw[e' (a:=.bool b)]
  ·rfl
  rcases eF with⟨rfl,rfl⟩|⟨rfl,rfl⟩
  ·rw[e' (a:=())]
   ·have ak:binOp .eql t (.agg (la.map (Value.int .i64)).toArray) (.agg (bs.map (Value.int .i64)).toArray)=(do pure (.bool (<-Op.equal t (.agg (la.map (Value.int .i64)).toArray) (.agg (bs.map (Value.int .i64)).toArray)))):=by simp[binOp]
    rw[ak,e' (s:=Op.equal t _ _) ae];rfl
   ·unfold eqGuard;simp only[ow,zN,y8];rw[e' (a:=K.P) I,e' (a:=K.P) I,ag];rfl
  ·rw[e' (a:=())]
   ·have ak:binOp .neq t (.agg (la.map (Value.int .i64)).toArray) (.agg (bs.map (Value.int .i64)).toArray)=(do pure (.bool (!(<-Op.equal t (.agg (la.map (Value.int .i64)).toArray) (.agg (bs.map (Value.int .i64)).toArray))))):=by simp[binOp]
    rw[ak,e' (s:=Op.equal t _ _) ae];show some (Value.bool (!decide (la=bs)))=_;rw[show(!decide (la=bs))=decide (¬la=bs) by simp]
   ·unfold eqGuard;simp only[ow,zN,y8];rw[e' (a:=K.P) I,e' (a:=K.P) I,ag];rfl
 rw[this];rfl
def Acc.eG{c:Code}{e:TypeId}{sz k:Nat}{v:Value}{cells:List Value}{aS e1:aJ}{E:bY}{cp:Exit->bY->aJ->ai->Prop}(h:Acc e sz v k cells aS)(hm:m=aS++e1)(hk:∀ah,J.le ah->fg ah e sz v k cells->aK K B c E e1 ah cp):aK K B c E m J cp:=by
 subst hm;cases h with
 |nil=>exact hk J (ai.le.refl _) .nil
 |kA a=>exact hk J (ai.le.refl _) (.kA _ _ _ (by decide))
 |@opn a k cells rest z aj aR=>
  intro S H au aD;obtain⟨aX,aT⟩:=aD.k8 (m:=e1) (x:=(cells,e)) I;exact hk _ aT (.row (ai.lC _ _ _) (by rw[iD,ft (by omega)]) aj (fun q=>absurd I q) (fun _=>rfl)) S H au aX
 |@cap a k C cells full el ae ag aE a6=>
  intro S H au aD;obtain⟨aX,aT⟩:=aD.k8 (m:=e1) (x:=(full,el)) I;exact hk _ aT (.row (ai.lC _ _ _) ag (by rw[<-ag,eL,ae,gv (hJ _ aE)]) (fun _=>⟨aE,a6⟩) (fun q=>absurd q (Ha a6))) S H au aX
end
section
variable {K:dW}{B:dN}{o:Oper}{n:Nat}{ds:er}{l:List (Nat×Value)}{m m':aJ}{J:ai}{fe:bY->aJ->ai->Prop}{d:Nat}{cp:Exit->bY->aJ->ai->Prop}
def wrap_u8{n:Int}(ae:0<=n)(ag:n<=255):IntKind.u8.wrap n=n:=by
 unfold IntKind.wrap IntKind.signed IntKind.bits;simp only[GJ,zN,y8];omega
def QD (a b:Int):BinOp->Option Int
 |.add=>some (a+b)
 |.sub=>some (a -b)
 |.mul=>some (a*b)
 |_=>none
def ag4{op:BinOp}{t eE:TypeId}{x y:Operand}{k:IntKind}{a b c c':Int}(al:o.op=.binOp op t x y eE)(U:bS l x=some (.int k a))(an:bS l y=some (.int k b))(az:QD a b op=some c)(hw:k.wrap c=c'):dr K B o n ds l m J (.int k c'):=by
 refine ag7 al U an ?_;cases op<;>simp only[QD,cb,reduceCtorEq] at az<;>subst az<;>subst hw<;>rfl
def isIface (P:Program)(t:TypeId):Bool:=match P.underlying t with|some (.interface _)=>true|_=>false
def NR:Value->Option Bool
 |.nilIface=>some true
 |.iface _ _=>some false
 |_=>none
def ag5{t eE:TypeId}{x:Operand}{v:Value}{b:Bool}(al:o.op=.binOp .eql t x (.const .nilIface) eE)(U:bS l x=some v)(az:NR v=some b)(aM:isIface K.P t=true):dr K B o n ds l m J (.bool b):=by
 intro call aO S H au aD;have an:bS l (.const .nilIface)=some .nilIface:=rfl;unfold isIface at aM;split at aM
 ·rename_i Ol hu;cases v with
  |nilIface=>
   simp only[NR,cb] at az;subst az;unfold cA fi;simp only[al];show mG K.P _ .eql t (a5 S.T H x) (a5 S.T H (.const .nilIface))=_;rw[dw au H U,dw au H an];show orElse (fQ K.P S.T H o) _=_;have:fQ K.P S.T H o=some (.val (.bool true) H):=by
    refine p9 au (by rw[al];rfl) U an I I ?_ I;unfold execOp;simp only[al];rw[jb au H U,jb au H an];rw[e' (a:=.bool true)]
    ·rfl
    rw[e' (a:=())]
    ·have ak:binOp .eql t .nilIface .nilIface=(do pure (.bool (<-Op.equal t .nilIface .nilIface))):=by simp[binOp]
     rw[ak,e' (a:=true)]
     ·rfl
     show fw K.P (Op.equalIn (9999+1) t .nilIface .nilIface)=_;unfold Op.equalIn;rw[e' (BV hu)];rfl
    ·unfold eqGuard;simp
     rfl
   rw[this];rfl
  |iface j0 v'=>
   simp only[NR,cb] at az;subst az;cases ap:fQ K.P S.T H o with
   |none=>
    refine YO al (dw au H U) (dw au H an) (fun _ _ q=>by cases q) ap ?_;unfold xK yz;simp only[hu]
   |some r=>
    unfold cA fi;simp only[al];show mG K.P _ .eql t (a5 S.T H x) (a5 S.T H (.const .nilIface))=_;rw[dw au H U,dw au H an];show orElse (fQ K.P S.T H o) _=_;have:fQ K.P S.T H o=some (.val (.bool false) H):=by
     have dX:plain (.iface j0 v')=true:=by
      cases q:plain (.iface j0 v') with
      |true=>rfl
      |false=>
       exfalso;unfold fQ at ap;rw[al] at ap;have:gp S.T H (Op.binOp BinOp.eql t x (.const .nilIface) eE).operands.toList=some [.iface j0 v',.nilIface]:=by
        show gp S.T H [x,.const .nilIface]=_;simp only[gp];rw[dw au H U,dw au H an]
       rw[this] at ap;simp only[DQ,q,GJ,dQ] at ap;cases ap
     refine p9 au (by rw[al];rfl) U an dX I ?_ I;unfold execOp;simp only[al];rw[jb au H U,jb au H an];rw[e' (a:=.bool false)]
     ·rfl
     rw[e' (a:=())]
     ·have ak:binOp .eql t (.iface j0 v') .nilIface=(do pure (.bool (<-Op.equal t (.iface j0 v') .nilIface))):=by simp[binOp]
      rw[ak,e' (a:=false)]
      ·rfl
      show fw K.P (Op.equalIn (9999+1) t (.iface j0 v') .nilIface)=_;unfold Op.equalIn;rw[e' (BV hu)];rfl
     ·unfold eqGuard;simp
      rfl
    rw[this];rfl
  |_=>simp[NR] at az
 ·cases aM
def aoO{S:aY}{ops:List Oper}{d:Nat}{want:Bool}(aB:nl ops o=some (d,want))(ak:S.T.get d=some undef):gK ops S.T o=some false:=by
 unfold nl at aB;unfold gK;cases q:o.guard with
 |none=>rw[q] at aB;cases aB
 |some x=>
  obtain⟨j,w⟩:=x;rw[q] at aB;show w3 ops S.T (j,w)=_;unfold w3;simp only at aB ⊢;cases aA:nth ops j with
  |none=>rfl
  |some p=>
   rw[aA] at aB;simp only at aB ⊢;cases av:p.dst with
   |none=>rfl
   |some mu=>
    rw[av] at aB;simp only[cb,c8] at aB;obtain⟨rfl,rfl⟩:=aB;simp only[ak];rfl
def W.aoP{ops rest:List Oper}{bq:Option (List PanicEntry)->bY->aJ->ai->Prop}{d e:Nat}{want:Bool}(aB:nl ops o=some (d,want))(ak:look l d=some undef)(av:o.dst=some e)(aA:Nat.blt e n=true)(h:W K B ops rest ⟨n,ds,(e,undef)::l⟩ m J bq):W K B ops (o::rest) ⟨n,ds,l⟩ m J bq:=by
 intro S H au aD;have du:=aoO aB (au.get d _ ak);obtain⟨a3,s1,s2⟩:=au.put (dst:=some e) aA undef;obtain⟨p,aL,H',E',m',ah,aX,aT,bd,cm⟩:=h a3 H s2 aD;refine⟨p,aL,H',E',m',ah,.cons g7 lP ?_ aX,aT,bd,cm⟩;unfold one;rw[du];show oq H (S.put o.dst undef)=_;rw[av,s1];rfl
def aK.hp{c:Code}(k:Nat)(news:List (Nat×Value))(ae:aK K B c ⟨n,ds,l⟩ m J fun e E' m' ah=>match e with
 |.normal=>(∃a9,E'=⟨n,ds,a9⟩/\lT a9 (news++l.drop k))/\m.Sublist m'/\ah=J
 |e=>cp e E' m' ah)(ag:cp .normal ⟨n,ds,news++l.drop k⟩ m J):aK K B c ⟨n,ds,l⟩ m J cp:=aK.cut ae ag
def aK.atS{α:Type}{c:Code}{base:List (Nat×Value)}(uk:α->List (Nat×Value))(mem:α->aJ)(eG:α->ai)(inv:α->Prop)(ui:α->Nat)(s:α)(hs:inv s)
 (bn:∀s,inv s->aK K B c ⟨n,ds,uk s++base⟩ (mem s) (eG s) fun e E m J=>match e with
  |.normal=>∃de l,inv de/\ui de<ui s/\E=⟨n,ds,l⟩/\lT l (uk de++base)/\(mem de).Sublist m/\J=eG de
  |e=>cp e E m J):aK K B (.loop c) ⟨n,ds,uk s++base⟩ (mem s) (eG s) cp:=
 aK.loop (fun s=>uk s++base) mem eG inv ui bn s hs
def aK.atQ{α:Type}{c:Code}{base:List (Nat×Value)}(uk:α->List (Nat×Value))(inv:α->Prop)(ui:α->Nat)(s:α)(hs:inv s)
 (bn:∀s,inv s->aK K B c ⟨n,ds,uk s++base⟩ m J fun e E cz bj=>match e with
  |.normal=>∃de l,inv de/\ui de<ui s/\E=⟨n,ds,l⟩/\lT l (uk de++base)/\m.Sublist cz/\bj=J
  |e=>cp e E cz bj):aK K B (.loop c) ⟨n,ds,uk s++base⟩ m J cp:=
 aK.loop (fun s=>uk s++base) (fun _=>m) (fun _=>J) inv ui bn s hs
def aK.atT{c:Code}{E:bY}(h:aK K B c E m J fun e E m J=>match e with
 |.normal=>aK K B (.loop c) E m J cp
 |e=>cp e E m J):aK K B (.loop c) E m J cp:=by
 intro S H au aD;obtain⟨e,a3,H1,e8,cz,bj,ae,ag,aE,a6⟩:=h S H au aD;cases e with
 |normal=>
  have a6:aK K B (.loop c) e8 cz bj cp:=a6;obtain⟨bA,aL,H',E',m',ah,aX,aT,bd,cm⟩:=a6 a3 H1 ag aE;exact⟨bA,aL,H',E',m',ah,dR.adp ae aX,aT,bd,cm⟩
 |exit i=>exact⟨_,a3,H1,e8,cz,bj,dR.xu ae (fun q=>by cases q),ag,aE,a6⟩
 |goto i=>exact⟨_,a3,H1,e8,cz,bj,dR.xu ae (fun q=>by cases q),ag,aE,a6⟩
 |ret=>exact⟨_,a3,H1,e8,cz,bj,dR.xu ae (fun q=>by cases q),ag,aE,a6⟩
 |panic c=>exact⟨_,a3,H1,e8,cz,bj,dR.xu ae (fun q=>by cases q),ag,aE,a6⟩
 |outgrown=>exact⟨_,a3,H1,e8,cz,bj,dR.xu ae (fun q=>by cases q),ag,aE,a6⟩
def fY.app{aS m m':aJ}{a:Nat}{b b':df}(h:fY m a b b' m'):fY (aS++m) a b b' (aS++m'):=by
 induction aS with
 |nil=>exact h
 |cons x aS aC=>exact .tail x aC
def W.eG{ops rest:List Oper}{bq:Option (List PanicEntry)->bY->aJ->ai->Prop}{E:bY}{a:Nat}{b:df}{x:List Value×TypeId}(U:b.rowOf=some x)(h:J.le (J.add a x)->(J.add a x) a=some x->W K B ops rest E m (J.add a x) bq):W K B ops rest E ((a,b)::m) J bq:=by
 intro S H au aD;obtain⟨aX,aT⟩:=aD.k8 U;exact h aT (ai.lC _ _ _) S H au aX
def gl(J:ai)(v:Value)(l:List Int):Prop:=∃e,fg J e 1 v l.length (l.map (Value.int .i64))
def gl.mono{ah:ai}(hle:J.le ah){v:Value}{l:List Int}(h:gl J v l):gl ah v l:=by obtain⟨e,h⟩:=h;exact⟨e,h.mono hle⟩
def gl.inv{v:Value}{l:List Int}(h:gl J v l):∃b c,v=.slice b l.length c/\(b=none->l=[])/\(0<l.length->∃a off cells e,b=some ⟨a,off,none⟩/\J a=some (cells,e)/\∀(i:Int),0<=i->i<l.length->∃x,l[i.toNat]?=some x/\nth cells (off+i.toNat*1)=some (.int .i64 x)):=by
 obtain⟨e,h⟩:=h;obtain⟨b,c,ae,ag,a6,aE⟩:=fg.inv h;refine⟨b,c,ae,fun q=>mQ (a6 q),fun q=>?_⟩;obtain⟨a,off,cells,e,aX,aT,bd⟩:=aE q;refine⟨a,off,cells,e,aX,aT,fun i i0 i1=>?_⟩;have cI:i.toNat<l.length:=by omega
 refine⟨l[i.toNat],cU cI,?_⟩;rw[jr,bd _ (by omega),h',cU cI];rfl
def gl.lit{a:Nat}{l:List Int}{e:TypeId}(aj:l.length<cK)(h:J a=some (l.map (Value.int .i64),e)):gl J (.slice (some ⟨a,0,none⟩) l.length l.length) l:=
 ⟨e,.row h (by rw[iD,ft (by simp)]) (by simp) (fun _=>⟨b2 _,aj⟩) (fun q=>absurd q (by omega))⟩
def aAh{t:TypeId}{x dM:Operand}{s:List UInt8}{k:IntKind}{i:Int}{b:UInt8}(al:o.op=.index t x dM)(U:bS l x=some (.string ⟨⟨s⟩⟩))(hi:bS l dM=some (.int k i))(aM:FD K.P t=true)(aQ:0<=i)(ak:s[i.toNat]?=some b):dr K B o n ds l m J (.int .u8 b.toNat):=aAi al U hi aM aQ ak
def awI{α:Type}:∀(L:List α) (k:Nat) (h:k<L.length),(L[k]::L.eraseIdx k).Perm L:=by
 intro L;induction L with
 |nil=>intro k h;cases h
 |cons a L aC=>
  intro k h;cases k with
  |zero=>exact XP _
  |succ k=>exact(List.Perm.swap _ _ _).trans ((aC k (by simpa using h)).cons a)
def hR{α:Type}{p:α}{rest L:List α}(k:Nat)(ap:nth L k=some p)(ar:rest.Perm (L.eraseIdx k)):(p::rest).Perm L:=by
 rw[lQ] at ap;obtain⟨h,rfl⟩:=dO.1 ap;exact(ar.cons _).trans (awI L k h)
end
section
variable {K:dW}{B:dN}{n:Nat}{ds:er}{l:List (Nat×Value)}{m:aJ}{J:ai}{cp:Exit->bY->aJ->ai->Prop}
structure we (r:qj) (n:Nat) (params:List Tmp) (assign body:Code) (bK:Nat) (l:List (Nat×Value)):Prop where
 ir:r.state=.ready
 nA:r.n=n
 ps:r.params=params
 bP:r.assign=assign
 yi:r.body=body
 xM:r.pending=none
 sat:Sat ⟨n,BR bK,l⟩ ⟨r.T,n,[],false,.run,some bK⟩
def we.again{r:qj}{params:List Tmp}{assign body:Code}{bK:Nat}(h:we r n params assign body bK l):we {r with state:=.ready,pending:=none} n params assign body bK l:=⟨I,h.nA,h.ps,h.bP,h.yi,I,h.sat⟩
end
structure aib (H H':aw):Prop where
 wf:j9 H'
 bJ:H'.bJ=H.bJ
 ao:H.ao<=H'.ao
 cC:H.cC<=H'.cC
 fU:∀a,a<H.ao->H'.mem.get a=H.mem.get a
 oe:∀f,f<H.cC->H'.bF.get f=H.bF.get f
open Classical in
def akI (K:dW)(f:FuncId)(bP:List Value)(v:Value)(H:aw):aw:=if h:∃H',j5 K.Q f bP H (.returned v) H'/\aib H H' then Classical.choose h else H
abbrev wC:=List (FuncId×List Value×Value)
def afw:wC->FuncId->Option (List Value×Value)
 |[],_=>none
 |(g,bP,v)::R,f=>bif Nat.beq f g then some (bP,v) else afw R f
open Classical in
def C' (K:dW)(R:wC):eW:=fun f args H=>match afw R f with
 |some (bP,v)=>if args=bP then some (.returned v,akI K f args v H) else none
 |none=>none
def hK(K:dW)(B:dN)(R:wC)(ops:List Oper)(a0:List jM)(E:bY)(m:aJ)(J:ai)(bq:bY->aJ->ai->Prop):Prop:=
 ∀S H,Sat E S->Inv K.g0 B J m H->∃aL H' E' m' ah,dA K.P (hY K.Q (C' K R)) (fW K.Q g7 (C' K R)).aO ops a0 S H=some (.ok aL H')/\Sat E' aL/\Inv K.g0 B ah m' H'/\bq E' m' ah
section
variable {K:dW}{B:dN}{R:wC}{ops:List Oper}{a0:List jM}{E:bY}{m m':aJ}{J:ai}{o:Oper}{bq:bY->aJ->ai->Prop}{cp:Exit->bY->aJ->ai->Prop}
variable {n:Nat}{ds:er}{l:List (Nat×Value)}{d i g:Nat}{want b:Bool}
def aK.H3(R:wC){id:Nat}{a:Array Oper}(aj:JS a.toList=none)(cG:Ex a.toList=true)(ap:Kq a.toList=a0)(h:hK K B R a.toList a0 E m J fun E m J=>cp .normal E m J):aK K B (.region id a true) E m J cp:=by
 intro S H au aD;obtain⟨aL,H',E',m',ah,ae,ag,aE,a6⟩:=h S H au aD;refine⟨.normal,aL,H',E',m',ah,dR.xH K.cZ.r1 g7 (C' K R) ?_,ag,aE,a6⟩;show r4 (wW K.P (fW K.Q g7 (C' K R)).call (fW K.Q g7 (C' K R)).aO a.toList S H)=_;rw[K'];unfold wW;rw[aj];show r4 (yy K.P (hY K.Q (C' K R)) (fW K.Q g7 (C' K R)).aO a.toList S H)=_;unfold yy;rw[cG,cd,ap,ae];rfl
def hK.nil(h:bq E m J):hK K B R ops [] E m J bq:=fun S H au aD=>⟨S,H,E,m,J,I,au,aD,h⟩
def hK.split(ak:look l d=some (.bool b))(ae:b=true->hK K B R ops a0 ⟨n,ds,(d,.bool true)::l⟩ m J bq)(aQ:b=false->hK K B R ops a0 ⟨n,ds,(d,.bool false)::l⟩ m J bq):hK K B R ops a0 ⟨n,ds,l⟩ m J bq:=by
 intro S H au aD;have key:∀c:Bool,b=c->Sat ⟨n,ds,(d,.bool c)::l⟩ S:=fun c e=>by
  subst e;refine⟨au.n,au.ds,au.bQ,au.bg,au.cx,au.has,fun t v q=>?_⟩;have aH:(bif Nat.beq t d then some (Value.bool b) else look l t)=some v:=q;cases b3:Nat.beq t d with
  |true=>rw[b3,cd] at aH;obtain rfl:=eM b3;rw[<-aH];exact au.get _ _ ak
  |false=>rw[b3,dQ] at aH;exact au.get t v aH
 cases b with
 |true=>exact ae I S H (key true I) aD
 |false=>exact aQ I S H (key false I) aD
def hK.ahm{v:Value}(hi:nth ops i=some o)(du:∀S,Sat ⟨n,ds,l⟩ S->gK ops S.T o=some true)(av:o.dst=some d)(aA:Nat.blt d n=true)(az:dr K B o n ds l m J v)(h:hK K B R ops a0 ⟨n,ds,(d,v)::l⟩ m J bq):hK K B R ops (.val i::a0) ⟨n,ds,l⟩ m J bq:=by
 intro S H au aD;obtain⟨a3,s1,s2⟩:=au.put (dst:=some d) aA v;obtain⟨aL,H',E',m',ah,ae,ag,aE,a6⟩:=h a3 H s2 aD;refine⟨aL,H',E',m',ah,?_,ag,aE,a6⟩;show jl ops i (mM K.P _ _ ops S H (dA K.P _ _ ops a0))=_;unfold jl;rw[hi];show mM K.P _ _ ops S H (dA K.P _ _ ops a0) o=_;unfold mM;rw[du S au];show Du S H o.dst (dA K.P _ _ ops a0) (cA K.P _ _ S H o)=_;rw[az _ _ S H au aD,av];show(bif Nat.beq H.ao H.ao then qe (dA K.P _ _ ops a0) H (S.put (some d) v) else none)=_;rw[ix,cd,s1];exact ae
def hK.WY(hi:nth ops i=some o)(du:∀S,Sat ⟨n,ds,l⟩ S->gK ops S.T o=some false)(av:o.dst=some d)(aA:Nat.blt d n=true)(h:hK K B R ops a0 ⟨n,ds,(d,undef)::l⟩ m J bq):hK K B R ops (.val i::a0) ⟨n,ds,l⟩ m J bq:=by
 intro S H au aD;obtain⟨a3,s1,s2⟩:=au.put (dst:=some d) aA undef;obtain⟨aL,H',E',m',ah,ae,ag,aE,a6⟩:=h a3 H s2 aD;refine⟨aL,H',E',m',ah,?_,ag,aE,a6⟩;show jl ops i (mM K.P _ _ ops S H (dA K.P _ _ ops a0))=_;unfold jl;rw[hi];show mM K.P _ _ ops S H (dA K.P _ _ ops a0) o=_;unfold mM;rw[du S au];show qe (dA K.P _ _ ops a0) H (S.put o.dst undef)=_;rw[av,s1];exact ae
def aon(aB:o.guard=none):∀S,Sat ⟨n,ds,l⟩ S->gK ops S.T o=some true:=fun S au=>by unfold gK;rw[aB]
def aoo(aB:nl ops o=some (g,want))(ak:look l g=some (.bool b))(hw:(b==want)=true):∀S,Sat ⟨n,ds,l⟩ S->gK ops S.T o=some true:=fun S au=>by rw[EP aB (au.get g _ ak),hw]
def Sa(aB:nl ops o=some (g,want))(ak:look l g=some (.bool b))(hw:(b==want)=false):∀S,Sat ⟨n,ds,l⟩ S->gK ops S.T o=some false:=fun S au=>by rw[EP aB (au.get g _ ak),hw]
def hK.val{v:Value}(hi:nth ops i=some o)(aB:o.guard=none)(av:o.dst=some d)(aA:Nat.blt d n=true)(az:dr K B o n ds l m J v)(h:hK K B R ops a0 ⟨n,ds,(d,v)::l⟩ m J bq):hK K B R ops (.val i::a0) ⟨n,ds,l⟩ m J bq:=hK.ahm hi (aon aB) av aA az h
def hK.ahl{v:Value}(hi:nth ops i=some o)(aB:nl ops o=some (g,want))(ak:look l g=some (.bool b))(hw:(b==want)=true)(av:o.dst=some d)(aA:Nat.blt d n=true)(az:dr K B o n ds l m J v)(h:hK K B R ops a0 ⟨n,ds,(d,v)::l⟩ m J bq):hK K B R ops (.val i::a0) ⟨n,ds,l⟩ m J bq:=hK.ahm hi (aoo aB ak hw) av aA az h
def hK.PC(hi:nth ops i=some o)(aB:nl ops o=some (g,want))(ak:look l g=some (.bool b))(hw:(b==want)=false)(av:o.dst=some d)(aA:Nat.blt d n=true)(h:hK K B R ops a0 ⟨n,ds,(d,undef)::l⟩ m J bq):hK K B R ops (.val i::a0) ⟨n,ds,l⟩ m J bq:=hK.WY hi (Sa aB ak hw) av aA h
def Bj{op:BinOp}{t eE:TypeId}{x y:Operand}{a c:Bool}{v:Value}(al:o.op=.binOp op t x y eE)(U:bS l x=some (.bool a))(an:bS l y=some (.bool c))(eF:op=.eql/\v=.bool (decide (a=c))\/op=.neq/\v=.bool (decide (¬a=c)))(aM:K.P.underlying t=some .bool):dr K B o n ds l m J v:=by
 intro call aO S H au aD;unfold cA fi;simp only[al];show mG K.P _ op t (a5 S.T H x) (a5 S.T H y)=_;rw[dw au H U,dw au H an];show orElse (fQ K.P S.T H o) _=_;have Ck:fw K.P (Op.equal t (.bool a) (.bool c))=some (decide (a=c)):=by
  show fw K.P (Op.equalIn (9999+1) t (.bool a) (.bool c))=_;unfold Op.equalIn;rw[e' (BV aM)];show some (a==c)=_;cases a<;>cases c<;>rfl
 have:fQ K.P S.T H o=some (.val v H):=by
  rcases eF with⟨rfl,rfl⟩|⟨rfl,rfl⟩
  ·refine p9 au (by rw[al];rfl) U an I I ?_ I;unfold execOp;simp only[al];rw[jb au H U,jb au H an];have ak:binOp .eql t (.bool a) (.bool c)=(do pure (.bool (<-Op.equal t (.bool a) (.bool c)))):=by simp[binOp]
   have aB:fw K.P (eqGuard .eql t x y (.bool a) (.bool c))=some ():=rfl;rw[e' (a:=.bool (decide (a=c)))]
   ·rfl
   rw[e' aB,ak,e' Ck];rfl
  ·refine p9 au (by rw[al];rfl) U an I I ?_ I;unfold execOp;simp only[al];rw[jb au H U,jb au H an];have ak:binOp .neq t (.bool a) (.bool c)=(do pure (.bool (!(<-Op.equal t (.bool a) (.bool c))))):=by simp[binOp]
   have aB:fw K.P (eqGuard .neq t x y (.bool a) (.bool c))=some ():=rfl;rw[e' (a:=.bool (decide (¬a=c)))]
   ·rfl
   rw[e' aB,ak,e' Ck];show some (Value.bool (!decide (a=c)))=_;rw[show(!decide (a=c))=decide (¬a=c) by simp]
 rw[this];rfl
def ahn(b:Bool)(n:Nat):ep (n+1) (.bool b) (.bool b)=true:=by cases b<;>rfl
def aK.Ru{c:Code}(k:Nat)(news:List (Nat×Value))(ae:aK K B c ⟨n,ds,l⟩ m J fun e E' m' ah=>match e with
 |.normal=>(∃a9,E'=⟨n,ds,a9⟩/\lT a9 (news++l.drop k))/\m.Sublist m'/\J.le ah
 |e=>cp e E' m' ah)(ag:∀ah,J.le ah->cp .normal ⟨n,ds,news++l.drop k⟩ m ah):aK K B c ⟨n,ds,l⟩ m J cp:=by
 intro S H au aD;obtain⟨e,aL,H',E',cz,ah,aX,aT,bd,cm⟩:=ae S H au aD;cases e with
 |normal=>
  obtain⟨⟨a9,rfl,fz⟩,kh,rX⟩:=cm;exact⟨_,aL,H',_,m,_,aX,aT.sub fz,bd.sub kh,ag _ rX⟩
 |exit i=>exact⟨_,aL,H',_,_,_,aX,aT,bd,cm⟩
 |goto i=>exact⟨_,aL,H',_,_,_,aX,aT,bd,cm⟩
 |ret=>exact⟨_,aL,H',_,_,_,aX,aT,bd,cm⟩
 |panic c=>exact⟨_,aL,H',_,_,_,aX,aT,bd,cm⟩
 |outgrown=>exact⟨_,aL,H',_,_,_,aX,aT,bd,cm⟩
def gl.get{z':Option Addr}{Vh c0:Nat}{N:List Int}(h:gl J (.slice z' Vh c0) N):Vh=N.length/\(z'=none->N=[])/\(0<N.length->∃a off cells e,z'=some ⟨a,off,none⟩/\J a=some (cells,e)/\∀(i:Int),0<=i->i<N.length->∃x,N[i.toNat]?=some x/\nth cells (off+i.toNat*1)=some (.int .i64 x)):=by
 obtain⟨b,c,ae,ag,aE⟩:=h.inv;injection ae with a6 dK ga
 subst a6;subst dK;subst ga;exact⟨I,ag,aE⟩
end
section
variable {K:dW}{B:dN}{ops:List Oper}{a0:List jM}{E:bY}{m m':aJ}{J:ai}{o:Oper}{bq:bY->aJ->ai->Prop}{cp:Exit->bY->aJ->ai->Prop}
variable {n:Nat}{ds:er}{l:List (Nat×Value)}{d i:Nat}
end
section
variable {K:dW}{B:dN}{ops:List Oper}{a0:List jM}{F:List (FuncId×List Value)}{m m':aJ}{J:ai}{o:Oper}{bq:bY->aJ->ai->Prop}
variable {n:Nat}{ds:er}{l:List (Nat×Value)}{d i:Nat}
def awm{S:aY}(au:Sat ⟨n,ds,l⟩ S):∀{xs:List (Nat×Operand)} {vs:List (Nat×Value)},u7 l xs=some vs->ur S.T xs=some vs:=by
 intro xs;induction xs with
 |nil=>intro vs h;exact h
 |cons x r aC=>
  obtain⟨i,x⟩:=x;intro vs h;simp only[u7] at h;simp only[ur];cases U:bS l x with
  |none=>rw[U] at h;cases h
  |some v=>
   rw[U] at h;simp only at h;rw[VO au U];simp only;cases ar:u7 l r with
   |none=>rw[ar] at h;cases h
   |some ws=>rw[ar] at h;simp only at h;rw[aC ar];exact h
def bX.buildSlice{t e:TypeId}{k sz:Nat}{gA cells:List Value}{ps:Array (Nat×Operand)}{vs:List (Nat×Value)}(hi:nth ops i=some o)(aB:o.guard=none)(al:o.op=.buildSlice t k ps)(av:o.dst=some d)(aA:Nat.blt d n=true)(ap:u7 l ps.toList=some vs)(aM:nF K.P t=some (e,sz,gA))(hk:(Nat.ble k 100000&&Nat.ble (k*sz) 100000)=true)(ay:oN (fun i=>some (i*sz,sz)) (fp gA k) vs=some cells)(ae:cells.all fx=true)
 (h:∀a,bX K B ops a0 F ⟨n,ds,(d,.slice (some ⟨a,0,none⟩) k k)::l⟩ ((a,.row cells e)::m) J bq):bX K B ops (.iF i::a0) F ⟨n,ds,l⟩ m J bq:=by
 obtain⟨hu,en,jR,z,iR,aR,bc,rfl,bl,b0,dp⟩:=vX aM;refine bX.iF (b:=.row cells e false 0 0 false) (p:=.row cells e) (eK:=.De k k) hi aB av aA (fun S au=>?_) (fun H a q=>q) (fun c e r z q=>by cases q) h;rw[al];simp only[oG];rw[awm au ap];simp only[Hl,hu,en,aR];rw[hk,dp,show Nat.beq z.cells.toList.length sz=true by rw[bl];exact ix _];simp only[zM,cd,ay,ae]
end
def rowOf (w:World)(g:Nat):Option (List Value×TypeId):=match w.heap[g]? with
 |some (.cells c e _)=>some (c.toList,e)
 |_=>none
def afH{w:World}{g:Nat}{cs:List Value}{e:TypeId}(h:rowOf w g=some (cs,e)):∃c f,w.heap[g]?=some (.cells c e f)/\c.toList=cs:=by
 unfold rowOf at h;split at h
 ·rename_i c bA f ax;injection h with h;injection h with ae ag
  subst ae;subst ag;exact⟨c,f,ax,I⟩
 ·cases h
def We{w:World}{g:Nat}{c:Array Value}{e:TypeId}{f:Nat×Nat}(h:w.heap[g]?=some (.cells c e f)):rowOf w g=some (c.toList,e):=by
 unfold rowOf;rw[h]
def s5 (P:Program)(w:World):bU:=fun g=>match rowOf w g with
 |some (cs,e)=>some ⟨g,cs.length,P.cellsOf e⟩
 |none=>none
def J2{P:Program}{w:World}{g:Nat}{L:Cre.Loc}(h:s5 P w g=some L):∃cs e,rowOf w g=some (cs,e)/\L=⟨g,cs.length,P.cellsOf e⟩:=by
 unfold s5 at h;cases ar:rowOf w g with
 |none=>rw[ar] at h;cases h
 |some x=>obtain⟨cs,e⟩:=x;rw[ar] at h;injection h with h;exact⟨cs,e,I,h.symm⟩
def adZ{P:Program}{w:World}{g:Nat}(h:(rowOf w g).isSome):∃L,s5 P w g=some L/\L.r=g:=by
 obtain⟨⟨cs,e⟩,U⟩:=Option.isSome_iff_exists.1 h;unfold s5;rw[U];exact⟨_,I,I⟩
def Yr{μ:bU}:∀(n:Nat) (v:Value),SizeOf.sizeOf v<=n->∃d',bk μ d' v:=by
 intro n;induction n with
 |zero=>intro v h;cases v<;>simp at h
 |succ n aC=>
  intro v h;have arr:∀cs:Array Value,SizeOf.sizeOf cs<=n->∃bP:Array Value,bP.size=cs.size/\∀(i:Nat) v v',bP[i]?=some v->cs[i]?=some v'->bk μ v v':=fun cs hs=>by
   have key:∀i:Fin cs.size,∃d',bk μ d' cs[i]:=fun i=>aC _ (by have:=Array.sizeOf_getElem cs i.1 i.2;have e:cs[i]=cs[i.1]:=rfl;rw[e];omega);refine⟨Array.ofFn fun i=>Classical.choose (key i),by simp,fun i v v' ae ag=>?_⟩;rw[Array.getElem?_ofFn] at ae;split at ae
   ·rename_i hi;injection ae with ae;subst ae
    rw[DD hi] at ag;injection ag with ag;subst ag
    exact ah5 (key ⟨i,hi⟩)
   ·cases ae
  by_cases al:fx v=true
  ·exact⟨_,.zI v al⟩
  ·cases v with
   |agg cs=>
    obtain⟨bP,ae,ag⟩:=arr cs (by simp at h;omega);exact⟨_,.agg bP cs ae ag⟩
   |tuple cs=>
    obtain⟨bP,ae,ag⟩:=arr cs (by simp at h;omega);exact⟨_,.tuple bP cs ae ag⟩
   |_=>exact absurd I al
def n6 (P:Program)(w:World)(v:Value):Value:=match v with
 |.pointer (some ⟨r,off,none⟩)=>if(rowOf w r).isSome then v else .chan none
 |.slice (some a) len cap=>if a.spot=none/\(rowOf w a.block).isSome/\cap<cK then v else if len=0/\cap=0 then .slice (some ⟨0,0,some 0⟩) 0 0 else .chan none
 |v=>if isAtom v=true then v else Classical.choose (Yr (μ:=s5 P w) (SizeOf.sizeOf v) v (b2 _))
def LL{P:Program}{w:World}{v:Value}(h:isAtom v=true):n6 P w v=v:=by
 unfold n6;split
 ·simp[isAtom] at h
 ·simp[isAtom] at h
 ·rw[aP h]
def D8{P:Program}{w:World}(v:Value):bk (s5 P w) (n6 P w v) v:=by
 unfold n6;split
 ·rename_i r off;split
  ·rename_i q;obtain⟨L,ae,ag⟩:=adZ (P:=P) q;have:=bk.ptr r off L ae;rwa [ag] at this
  ·exact .zI _ I
 ·rename_i a len cap;split
  ·rename_i q;obtain⟨r,off,sp⟩:=a;obtain⟨k',aN,aH⟩:=q;have k':sp=none:=k';subst k';obtain⟨L,ae,ag⟩:=adZ (P:=P) aN;have ag:L.r=r:=ag;have:=bk.o5 r off len cap L ae aH;rwa [ag] at this
  ·split
   ·rename_i q;obtain⟨rfl,rfl⟩:=q;exact .zA a
   ·exact .zI _ I
 ·split
  ·exact .atom _ (by assumption)
  ·exact ah5 (Yr (μ:=s5 P w) (SizeOf.sizeOf v) v (b2 _))
def vV (P:Program)(w:World)(g:Nat):Option (List Value×TypeId):=match rowOf w g with
 |some (cs,e)=>some (cs.map (n6 P w),e)
 |none=>none
def afB{P:Program}{w:World}{g:Nat}{cs:List Value}{e:TypeId}(h:vV P w g=some (cs,e)):∃c,rowOf w g=some (c,e)/\cs=c.map (n6 P w):=by
 unfold vV at h;split at h
 ·rename_i c bA q;injection h with h;injection h with ae ag
  subst ae;subst ag;exact⟨c,q,I⟩
 ·cases h
def Pa{P:Program}{w:World}{g:Nat}{cs:List Value}{e:TypeId}(h:rowOf w g=some (cs,e)):vV P w g=some (cs.map (n6 P w),e):=by
 unfold vV;rw[h]
def Ec (P:Program)(w:World)(g:Nat):fP:=match vV P w g with
 |some (cs,e)=>.row cs e false 0 cs.length true
 |none=>.dead
def CJ (P:Program)(w:World):aZ fP:=match zE ((List.range w.heap.size).map (Ec P w)) 0 .leaf with|some t=>t|none=>.leaf
def Oi{P:Program}{w:World}(g:Nat):(CJ P w).get g=if g<w.heap.size then some (Ec P w g) else none:=by
 obtain⟨T,cq⟩:=agQ ((List.range w.heap.size).map (Ec P w)) 0 .leaf (fun k hk=>absurd hk (by omega));unfold CJ;rw[cq];simp only
 rw[WK cq];simp only[c6,true_and,e9,XT,j8,Hd];split
 ·rename_i h;rw[h',GS h];rfl
 ·rfl
def yZ (P:Program)(w:World):aw:=⟨CJ P w,w.heap.size,.leaf,0,w.heap.size⟩
def afC{P:Program}{w:World}{g:Nat}{x:List Value×TypeId}(h:vV P w g=some x):g<w.heap.size:=by
 obtain⟨cs,e⟩:=x;obtain⟨c,ae,_⟩:=afB h;obtain⟨c',f,ag,_⟩:=afH ae;exact(PU.1 ag).1
def acf{P:Program}{w:World}{g:Nat}{cs:List Value}{e:TypeId}(h:vV P w g=some (cs,e)):(yZ P w).mem.get g=some (.row cs e false 0 cs.length true):=by
 show(CJ P w).get g=_;rw[Oi,aP (afC h)];unfold Ec;rw[h]
def ace{P:Program}{w:World}{g:Nat}{b:fP}(h:(yZ P w).mem.get g=some b):g<w.heap.size/\(b=.dead\/∃cs e,vV P w g=some (cs,e)/\b=.row cs e false 0 cs.length true):=by
 have h:(CJ P w).get g=some b:=h;rw[Oi] at h;split at h
 ·rename_i aB;refine⟨aB,?_⟩;injection h with h
  unfold Ec at h;cases ar:vV P w g with
  |none=>rw[ar] at h;exact .inl h.symm
  |some x=>obtain⟨cs,e⟩:=x;rw[ar] at h;exact .inr ⟨cs,e,I,h.symm⟩
 ·cases h
def anQ(P:Program)(w:World):bZ P (fun k=>k<w.heap.size) w (s5 P w) (yZ P w) w:=by
 have mlt:∀x L,s5 P w x=some L->x<w.heap.size:=fun x L U=>by
  obtain⟨cs,e,ae,_⟩:=J2 U;exact afC (Pa (P:=P) ae)
 refine⟨Kept.refl _ _,fun _ hk=>hk,?_,?_,mlt,?_,?_,?_,b2 _,?_,?_,?_⟩
 ·intro g L q;obtain⟨c,e,ag,rfl⟩:=J2 q;obtain⟨c',f,aE,rfl⟩:=afH ag;refine⟨_,_,acf (Pa ag),aE,I,by simp,I,by simp,fun _=>by simp,fun i v v' x y=>?_,⟨fun off al _ _=>by simpa using al,fun q=>by cases q⟩⟩;rw[h'] at x;have lW:c'.toList[i]?=some v':=by simpa using y
  rw[lW] at x;injection x with x;subst x
  exact D8 v'
 ·intro x y gU h3 eU U an ar;obtain⟨_,_,_,rfl⟩:=J2 U;obtain⟨_,_,_,rfl⟩:=J2 an;exact absurd ar eU
 ·intro x L U _;obtain⟨_,_,_,rfl⟩:=J2 U;rfl
 ·intro x L U aB _;have:=mlt x L U;have aB:w.heap.size<=x:=aB;omega
 ·intro g c e o f z s _ hm;obtain⟨aB,q⟩:=ace hm;rcases q with q|⟨cs,bA,aN,aH⟩
  ·cases q
  ·obtain⟨c0,ae,_⟩:=afB aN;refine⟨⟨g,c0.length,P.cellsOf bA⟩,?_⟩;unfold s5;rw[ae]
 ·intro x c e f z s hm;obtain⟨_,q⟩:=ace hm;rcases q with q|⟨_,_,_,q⟩<;>cases q
 ·intro f l x aj;cases aj
 ·intro f l aj;cases aj
def xp (P:Program)(w:World):ai:=vV P w
def as0(P:Program)(w:World):Inv w.heap.size (iJ [] (yZ P w) (xp P w)) (xp P w) [] (yZ P w):=by
 refine⟨⟨fun a aI=>?_,fun a aI=>?_,fun f ay=>absurd ay (D2 _),fun f _=>rfl,b2 _⟩,I,b2 _,b2 _,fun _ _ _=>rfl,fun _ _=>rfl,fun a c e h=>?_,ai.le.refl _,fun a x ae ag=>?_,fun a b h=>(by cases h),(fun a b h=>by cases h),List.nodup_nil⟩
 ·refine⟨Ec P w a,?_⟩;show(CJ P w).get a=_;rw[Oi,aP (show a<w.heap.size from aI)]
 ·show(CJ P w).get a=none;rw[Oi,aG (by have aI:w.heap.size<=a:=aI;omega)]
 ·exact⟨_,_,_,_,acf h⟩
 ·rw[show xp P w a=none from ae] at ag;cases ag
section
variable {K:dW}
def av6{w:World}{f:FuncId}{fn:Func}{c:Code}{args:List Value}{bV:Array Value}{b:Bool}(hf:K.Q.ok (fun k=>k<w.heap.size) w)(aB:K.g0=w.heap.size)(ay:K.P.funcs[f]?=some fn)(ak:fn.body=some c)(aj:bW (s5 K.P w) args bV.toList)(bC:Fn K f args [] (xp K.P w) (fun v m J=>v=.bool b)):
 Calls K.P f bV w fun e a'=>e=.returned (.bool b)/\Below w.heap.size w a':=by
 have aD:Inv K.g0 (iJ [] (yZ K.P w) (xp K.P w)) (xp K.P w) [] (yZ K.P w):=by rw[aB];exact as0 K.P w
 obtain⟨v,H',ah,m',ae,ag,rfl⟩:=bC (yZ K.P w) aD;have hs:=ae _ w hf f args (yZ K.P w) (.returned (.bool b)) H' (by unfold lD;rw[aP ⟨I,I,I⟩]) (s5 K.P w) w bV.toList (anQ K.P w) aj;rcases hs with⟨v,v',a',bh,_,q,_⟩|⟨_,q⟩
 ·rw[H6 ay ak (K.cZ.num f fn ay (by rw[ak];rfl))] at q;cases q
 ·refine Calls.mono q fun bA a' b3=>?_;obtain⟨bh,ca,b7,cw⟩:=b3;cases bA with
  |returned v'=>
   have az:bk bh (.bool b) v':=cw;rw[az.Hw];exact⟨I,ca.below.below⟩
  |panicked c=>exact cw.elim
  |outgrown=>exact cw.elim
def Fn.closed{H0:aw}{f:FuncId}{fn:Func}{c:Code}{v:Value}{J:ai}(ap:plain v=true)(ay:K.P.funcs[f]?=some fn)(ak:fn.body=some c)(cG:∀B w,K.Q.ok B w->Laid K.P w H0/\Lk H0 B)
 (ax:∀w,Laid K.P w H0->Calls K.P f #[] w fun e a'=>e=.returned v/\Below w.heap.size w a'):Fn K f [] [] J (fun u m' ah=>u=v/\m'=[]/\ah=J):=by
 intro H aD;refine⟨v,H,J,[],fun B w0 hf=>?_,aD,I,I,I⟩;obtain⟨qM,du⟩:=cG B w0 hf;intro ck bV H' e oz he μ w aB0 h aj;unfold lD at he;split at he
 ·rename_i q;obtain⟨rfl,rfl,rfl⟩:=q;simp only[cb,c8] at he;obtain⟨rfl,rfl⟩:=he;obtain rfl:=aj.mf;refine .inr ⟨H6 ay ak (K.cZ.num ck fn ay (by rw[ak];rfl)) _ w,?_⟩;refine Calls.mono (ax w (qM.fU du h.below)) fun bA a' ⟨rF,Cg⟩=>?_;subst rF;exact⟨μ,h.grow Cg,Step.refl _ _,q1 ap⟩
 ·cases he
def W8(P:Program)(H0:aw):da P where
 ok B w:=Laid P w H0/\Lk H0 B
 up B w0 jf jA h du hk:=⟨h.1.fU h.2 hk,fun g b aB ak=>du g (h.2 g b aB ak)⟩
end
def ahp{b:Option Addr}(h:addrEq b b=true)(l c n:Nat):ep (n+1) (.slice b l c) (.slice b l c)=true:=by
 show(addrEq b b&&Nat.beq l l&&Nat.beq c c)=true;rw[ix,ix,h];rfl
def aAA{n:Nat}:∀{l:List Value},(∀v∈l,ep n v v=true)->ep (n+1) (.agg l.toArray) (.agg l.toArray)=true:=by
 intro l h;show js (ep n) l l=true;induction l with
 |nil=>rfl
 |cons a l aC=>
  show(ep n a a&&js (ep n) l l)=true;rw[h a (.head _),aC (fun v az=>h v (.tail _ az))];rfl
def aAD{n:Nat}:∀v∈([]:List Value),ep n v v=true:=fun v az=>by cases az
def aAC{n:Nat}{a:Value}{l:List Value}(h:ep n a a=true)(aj:∀v∈l,ep n v v=true):∀v∈a::l,ep n v v=true:=fun v az=>by
 rcases fs.1 az with rfl|q
 ·exact h
 ·exact aj v q
section
variable {K:dW}{B:dN}{o:Oper}{n:Nat}{ds:er}{l:List (Nat×Value)}{m m':aJ}{J:ai}{fe:bY->aJ->ai->Prop}{d:Nat}{cp:Exit->bY->aJ->ai->Prop}
def aK.nZ{c:Code}{E:bY}(ap:m'.Perm m)(h:aK K B c E m' J cp):aK K B c E m J cp:=fun S H au aD=>h S H au (aD.perm ap.symm)
def pe.perm{g0 sz k:Nat}{v:Value}{cs:List Value}(ap:m.Perm m')(h:pe g0 B J m sz v k cs):pe g0 B J m' sz v k cs:=fun H aD=>h H (aD.perm ap.symm)
def Kp{α:Type}{x:α}{aS r:List α}:(x::(aS++r)).Perm (aS++x::r):=List.perm_middle.symm
def OP{α:Type}{x y:α}{aS r:List α}:(x::y::(aS++r)).Perm (aS++x::y::r):=(Kp.cons x).trans Kp
def ae0{α:Type}{x y z:α}{aS r:List α}:(x::y::z::(aS++r)).Perm (aS++x::y::z::r):=(OP.cons x).trans Kp
def pe.own{g0:Nat}{e:TypeId}{sz k c a:Nat}{cells:List Value}(hm:(a,df.row cells e)∈m)(aj:cells.length=k*sz):pe g0 B J m sz (.slice (some ⟨a,0,none⟩) k c) k cells:=by
 intro H aD;refine⟨I,?_⟩;have g:=(aD.own _ _ hm).1;have g:H.mem.get a=some (.row cells e false 0 0 false):=g;unfold kB;cases k with
 |zero=>
  simp only
  rw[nM] at aj;rw[mQ aj]
 |succ k=>
  simp only[g];rw[wS,iD,zC (by omega),ft (by omega)]
def zK{c:Call}{t iA e:TypeId}{sz k j:Nat}{gA cells new:List Value}{v x:Value}{aS e1:aJ}{e0:TypeDesc}(al:o.op=.call c)(ax:c.callee=.builtin .append)(av:o.dst=some d)(aA:Nat.blt d n=true)(aI:jH l c.args.toList=some [v,x])(tV:c.argTypes.toList=[t,iA])(aM:nF K.P t=some (e,sz,gA))(lN:K.P.underlying iA=some e0)(xh:∀i,e0≠.int i)
 (az:Acc e sz v k cells aS)(hm:m.Perm (aS++e1))(U:pe K.g0 B J m sz x j new)(cH:new.length=j*sz)(c7:new.all fx=true)(aj:k+j<=1000000)
 (h:∀w kj,Acc e sz w (k+j) (cells++new) kj->fe ⟨n,ds,(d,w)::l⟩ (kj++e1) J):kr K B o ⟨n,ds,l⟩ m J fe:=fun S H au aD=>
 aA7 al ax av aA aI tV aM lN xh az I (U.perm hm) cH c7 aj h S H au (aD.perm hm)
def Acc.k7{c:Code}{e:TypeId}{sz k:Nat}{v:Value}{cells:List Value}{aS e1:aJ}{E:bY}(h:Acc e sz v k cells aS)(hm:m.Perm (aS++e1))(hk:∀ah,J.le ah->fg ah e sz v k cells->aK K B c E e1 ah cp):aK K B c E m J cp:=
 aK.nZ hm.symm (h.eG I hk)
end
def HU (iZ off cap sz:Nat)(a b:Int):Value:=
 if cap=cK then .slice (some ⟨iZ,off+a.toNat*sz,none⟩) (b -a).toNat cK
 else if cap=a.toNat then .slice (some ⟨iZ,off,none⟩) (b -a).toNat (cap -a.toNat)
 else .slice (some ⟨iZ,off+a.toNat*sz,none⟩) (b -a).toNat (cap -a.toNat)
section
variable {K:dW}{B:dN}{o:Oper}{n:Nat}{ds:er}{l:List (Nat×Value)}{m m':aJ}{J:ai}{fe:bY->aJ->ai->Prop}{d:Nat}
def alO{e:TypeId}{iZ off k cap sz:Nat}{cs:List Value}{a b:Int}(az:fg J e sz (.slice (some ⟨iZ,off,none⟩) k cap) k cs)(hk:0<k)(aQ:0<=a)(ae:a<=b)(ag:b<=k):
 fg J e sz (HU iZ off cap sz a b) (b -a).toNat ((cs.drop (a.toNat*sz)).take ((b -a).toNat*sz)):=by
 generalize nr:k=US at az;have vz:=az;cases az with
 |kA a off cap h=>exact absurd hk (by omega)
 |@row iZ off k cap cells cs bA dc c9 fI iL q4=>
  subst nr;have hlen:k*sz<=(cells.drop off).length:=by
   have:((cells.drop off).take (k*sz)).length=k*sz:=by rw[c9];exact fI
   rw[eL] at this;omega
  have hle:a.toNat*sz+(b -a).toNat*sz<=k*sz:=by
   rw[<-g'];exact hJ _ (by omega)
  have iI:(cells.drop (off+a.toNat*sz)).take ((b -a).toNat*sz)=(cs.drop (a.toNat*sz)).take ((b -a).toNat*sz):=by
   rw[<-c9,DR,qq,zU,gv (by omega)]
  have l8:((cs.drop (a.toNat*sz)).take ((b -a).toNat*sz)).length=(b -a).toNat*sz:=by
   rw[eL,jO,fI];omega
  unfold HU;split
  ·exact .row dc iI l8 (fun q=>absurd I q) (fun _=>q4 (by assumption))
  ·rename_i ax;split
   ·have jw:(b -a).toNat=0:=by have:=(iL ax).1;omega
    have:(cs.drop (a.toNat*sz)).take ((b -a).toNat*sz)=[]:=by rw[jw];simp
    rw[this,jw];exact .kA _ _ _ (by have:=(iL ax).2;omega)
   ·refine .row dc iI l8 (fun _=>⟨by have:=(iL ax).1;omega,by have:=(iL ax).2;omega⟩) (fun q=>?_);have:=(iL ax).2;omega
def aAs{t e:TypeId}{x:Operand}{lo hi:Option Operand}{w:Value}{iZ off cap k sz:Nat}{gA cs:List Value}{a b:Int}(al:o.op=.slice t x lo hi none)(U:bS l x=some (.slice (some ⟨iZ,off,none⟩) k cap))(aM:nF K.P t=some (e,sz,gA))(az:fg J e sz (.slice (some ⟨iZ,off,none⟩) k cap) k cs)(hk:0<k)(ji:yj l 0 lo=some a)(lK:yj l k hi=some b)(aQ:0<=a)(ae:a<=b)(ag:b<=k)(hw:HU iZ off cap sz a b=w):dr K B o n ds l m J w:=by
 obtain⟨hu,en,jR,z,iR,aR,bc,rfl,bl,b0,dp⟩:=vX aM;intro call aO S H au aD;subst hw;generalize nr:k=US at az;cases az with
 |kA a off cap h=>exact absurd hk (by omega)
 |@row iZ off k cap cells cs bA dc c9 fI iL q4=>
  subst nr;obtain⟨ol,VI,CU⟩:=Aa (ju:=0) (top:=b.toNat) au H ji aQ (by omega) I;have hD:∀w,l4 K.P H t (.slice (some ⟨iZ,off,none⟩) k cap) ol (match iT S.T H hi with|some x=>x|none=>none)=some w->cA K.P call aO S H o=some (.val w H):=fun w hw=>by
   unfold cA fi;simp only[al];show oi K.P _ t (a5 S.T H x) (iT S.T H lo) (iT S.T H hi)=_;rw[dw au H U,VI];rcases QS au H lK with⟨_,_,q⟩|⟨_,_,_,_,q⟩
   ·rw[q] at hw ⊢;unfold oi;simp only;rw[show l4 K.P H t (.slice (some ⟨iZ,off,none⟩) k cap) ol none=some w from hw];rfl
   ·rw[q] at hw ⊢;unfold oi;simp only;rw[show l4 K.P H t (.slice (some ⟨iZ,off,none⟩) k cap) ol _=some w from hw];rfl
  have aF:(b -a).toNat=b.toNat -a.toNat:=by omega
  obtain⟨F4,of,awf,os,b3⟩:=aD.eG _ _ _ dc;refine hD _ ?_;unfold HU;by_cases ax:cap=cK
  ·subst ax;obtain⟨CS,s8,s9⟩:=Aa (ju:=k) (top:=k) au H lK (by omega) (by omega) I;rw[aP I,s8];unfold l4;simp only[hu,en,ix,cd,b3,q4 I,s9,CU,ow,dQ];rw[aF];rfl
  ·obtain⟨CS,s8,s9⟩:=Aa (ju:=k) (top:=cap) au H lK (by omega) (by have:=(iL ax).1;omega) I;have IY:Nat.beq cap cK=false:=by
    cases q:Nat.beq cap cK
    ·rfl
    ·exact absurd (eM q) ax
   rw[aG ax];by_cases vo:cap=a.toNat
   ·rw[aP vo,s8];unfold l4;simp only[hu,en,IY,dQ,s9,CU];rw[show Nat.beq cap a.toNat=true by rw[vo];exact ix _,cd,aF];rfl
   ·rw[aG vo,s8];unfold l4;simp only[hu,en,IY,dQ,s9,CU];have:Nat.beq cap a.toNat=false:=by
     cases q:Nat.beq cap a.toNat
     ·rfl
     ·exact absurd (eM q) vo
    rw[this,dQ,aF];rfl
def Acc.kC{e:TypeId}{sz k:Nat}{v:Value}{cells:List Value}{aS:aJ}(h:Acc e sz v k cells aS):∃b c,v=.slice b k c/\addrEq b b=true:=by
 cases h with
 |nil=>exact⟨_,_,I,I⟩
 |kA a=>exact⟨_,_,I,by simp[addrEq]⟩
 |opn h=>exact⟨_,_,I,by simp[addrEq]⟩
 |cap=>exact⟨_,_,I,by simp[addrEq]⟩
end
open Go.ChangeShapes
def Yt{b off i:Nat}{sp:Option Nat}(h:sp=none):(⟨b,off,sp⟩:Addr).add i=⟨b,off+i,none⟩:=by
 subst h;unfold Addr.add;split
 ·rename_i q;subst q;rfl
 ·rfl
def Q'{W:World}{base k:Nat}{a:Addr}{cs:List Value}(h:W.cells? base a k=some cs)(hk:0<k):∃c e f,W.heap[a.block]?=some (.cells c e f)/\a.spot=none/\cs.length=k/\∀j,j<k->c[a.off+j]?=cs[j]?:=by
 obtain⟨_,ag,aE⟩:=World.cells?_some h;obtain⟨b,off,sp⟩:=a;have aQ:=aE 0 hk;have my:∃v,cs[0]?=some v:=⟨cs[0]'(by omega),cU _⟩;obtain⟨d',asg⟩:=my;have kz:(⟨b,off,sp⟩:Addr).add 0=⟨b,off,sp⟩:=rfl;rw[kz,asg] at aQ;unfold World.cell? at aQ;cases dB:W.heap[b]? with
 |none=>rw[show(⟨b,off,sp⟩:Addr).block=b from I,dB] at aQ;cases aQ
 |some o=>
  rw[show(⟨b,off,sp⟩:Addr).block=b from I,dB] at aQ;cases o with
  |cells c e f=>
   simp only at aQ;cases sp with
   |some s=>simp at aQ
   |none=>
    refine⟨c,e,f,by first|rfl|exact dB,I,ag,fun j aW=>?_⟩;have:=aE j aW;rw[Yt I] at this;unfold World.cell? at this;rw[show(⟨b,off+j,none⟩:Addr).block=b from I,dB] at this;simpa using this
  |_=>cases aQ
section
variable {H:Type}{enc:TypeId×Value->H}{P:Program}{W:World}{fuel:Nat}{t e:TypeId}{cs:List Value}{x:DataW H×List MemPlace}
abbrev Gp(enc:TypeId×Value->H)(P:Program)(W:World):=DataW.trod enc P W 0 (fun _=>true) true
def Ws{sz:Nat}(aM:P.underlying t=some (.slice e))(en:P.cellsOf e=sz)(aQ:0<sz)(h:Gp enc P W fuel t cs=some x):
 ∃(b:Option Addr) (n c:Nat) (rows:List Value) (el:List (List Value)) (ds:List (DataW H×List MemPlace)) (m:Nat),cs.map (n6 P W)=[.slice b n c]/\cs.length=1/\(∀bA,fg (xp P W) bA sz (.slice b n c) n (rows.map (n6 P W)))/\el.length=n/\ds.length=n/\
  (∀i cT,el[i]?=some cT->cT.length=sz/\(rows.drop (i*sz)).take sz=cT/\∃y,ds[i]?=some y/\Gp enc P W m e cT=some y)/\
  (∀y∈ds,∀z∈y.1.weights P e,z∈x.1.weights P t)/\n<=maxLen:=by
 rcases DataW.trod_slice aM h with⟨rfl,rfl⟩|⟨a,len,cap,u6,rest,n,rfl,rfl,rfl,ae,ag,aE,a6,dK,ga,mx⟩
 ·exact⟨none,0,0,[],[],[],0,by rw[tp,LL I];rfl,I,fun bA=>.nil,I,I,(fun i cT q=>by simp at q),(fun y an=>by cases an),c6 _⟩
 ·have oQ:cap<cK:=jg aE (by unfold maxLen cK;decide);have hw:∀y∈u6,∀z∈y.1.weights P e,z∈(DataW.slice (u6.map (·.1)) (rest.map (·.1)):DataW H).weights P t:=fun y an z aR=>by
   rw[DataW.weights,aM];refine XW _ (tq _ ?_);have:∀l:List (DataW H×List MemPlace),y∈l->z∈DataW.weightsAll P e (l.map (·.1)):=fun l=>by
    induction l with
    |nil=>intro q;cases q
    |cons d r aC=>
     intro q;rw[tp,DataW.weightsAll];rcases fs.1 q with rfl|q
     ·exact tq _ aR
     ·exact j7 _ (aC q)
   exact this u6 an
  have np:∀i,i<len->∃cT y,W.cells? 0 (a.add (i*sz)) sz=some cT/\u6[i]?=some y/\Gp enc P W n e cT=some y:=fun i hi=>by
   have Sm:=dK i hi;rw[en] at Sm;have kF:i<u6.length:=by omega
   rw[cU kF] at Sm;obtain⟨cT,aN,aH⟩:=aiM.1 Sm;exact⟨cT,_,aN,cU kF,aH⟩
  by_cases aj:len=0
  ·subst aj;have aqm:u6=[]:=zV.1 a6;subst aqm;by_cases ar:a.spot=none/\(rowOf W a.block).isSome
   ·refine⟨some a,0,cap,[],[],[],n,?_,I,fun bA=>?_,I,I,(fun i cT q=>by simp at q),hw,c6 _⟩
    ·show[n6 P W _]=_;unfold n6;simp only;rw[aP ⟨ar.1,ar.2,oQ⟩]
    ·obtain⟨b,off,sp⟩:=a;obtain⟨rfl,_⟩:=ar;exact .kA _ _ _ oQ
   ·have my:cap=0:=by
     apply ox;intro ax
     obtain⟨dc,c9⟩:=ga I;have aW:=c9 0 (by omega);rw[en] at aW;have aoQ:0<rest.length:=by omega
     rw[cU aoQ] at aW;obtain⟨cT,aN,aH⟩:=aiM.1 aW;have kz:a.add ((0+0)*sz)=a:=by simp[Addr.add]
     rw[kz] at aN;obtain⟨c,bA,f,ca,b7,_⟩:=Q' aN aQ;exact ar ⟨b7,by rw[We ca];rfl⟩
    subst my;refine⟨some ⟨0,0,some 0⟩,0,0,[],[],[],n,?_,I,fun bA=>.Ah,I,I,(fun i cT q=>by simp at q),hw,c6 _⟩;show[n6 P W _]=_;unfold n6;simp only;rw[aG (fun q=>ar ⟨q.1,q.2.1⟩),aP (by simp)]
  ·obtain⟨ky,o7,aN,aH,bo⟩:=np 0 (by omega);have kz:a.add (0*sz)=a:=by simp[Addr.add]
   rw[kz] at aN;obtain⟨c,bA,f,ca,b7,cw,f'⟩:=Q' aN aQ;obtain⟨b,off,sp⟩:=a;have b7:sp=none:=b7;subst b7;have ca:W.heap[b]?=some (.cells c bA f):=ca;have mb:=We ca;have abt:∀i,i<len->∃cT y,u6[i]?=some y/\Gp enc P W n e cT=some y/\cT.length=sz/\∀j,j<sz->c.toList[off+(i*sz+j)]?=cT[j]?:=fun i hi=>by
    obtain⟨cT,y,aX,aT,bd⟩:=np i hi;rw[Yt I] at aX;obtain⟨c',ZQ,ck,cz,_,lO,o0⟩:=Q' aX aQ;have cz:W.heap[b]?=some (.cells c' ZQ ck):=cz;rw[ca] at cz;injection cz with cz;injection cz with cz _ _
    subst cz;exact⟨cT,y,aT,bd,lO,fun j aW=>by have:=o0 j aW;rw[show off+(i*sz+j)=off+i*sz+j by omega];simpa using this⟩
   have hlen:off+len*sz<=c.toList.length:=by
    obtain⟨cT,y,_,_,bd,cm⟩:=abt (len -1) (by omega);have:=cm (sz -1) (by omega);rw[cU (show sz -1<cT.length by omega)] at this;have Iy:off+((len -1)*sz+(sz -1))<c.toList.length:=by
     rcases ha (off+((len -1)*sz+(sz -1))) c.toList.length with q|q
     ·exact q
     ·rw[jq q] at this;cases this
    have:len*sz=(len -1)*sz+sz:=by
     rw[<-nf];congr 1;omega
    omega
   refine⟨some ⟨b,off,none⟩,len,cap,(c.toList.drop off).take (len*sz),(List.range len).map fun i=>(c.toList.drop (off+i*sz)).take sz,u6,n,?_,I,fun ZQ=>?_,by simp,a6,fun i cT hi=>?_,hw,dT ag aE⟩
   ·show[n6 P W _]=_;unfold n6;simp only;rw[aP (by simp only[true_and];exact⟨by rw[mb];rfl,oQ⟩)]
   ·refine .row (Pa mb) (by rw[<-List.map_drop,<-GY]) ?_ (fun _=>⟨ag,oQ⟩) (fun q=>by omega);rw[e9,eL,jO];omega
   ·rw[h'] at hi;have tL:i<len:=by
     rcases ha i len with q|q
     ·exact q
     ·rw[jq (by simpa using q)] at hi;cases hi
    rw[GS tL] at hi;simp only[Lz,cb] at hi;obtain⟨Mo,y,aX,aT,bd,cm⟩:=abt i tL;have hle:i*sz+sz<=len*sz:=by rw[<-nf];exact hJ _ tL
    have iI:(c.toList.drop (off+i*sz)).take sz=Mo:=by
     refine pK fun j=>?_;rw[iY];split
     ·rename_i aW;rw[n2,<-cm j aW];congr 1;omega
     ·rw[jq (by omega)]
    rw[iI] at hi;subst hi;refine⟨bd,?_,y,aX,aT⟩;rw[<-iI,DR,zU,qq,gv (by omega)]
def acT(aM:P.underlying t=some (.slice e))(he:P.underlying e=some (.int .i64))(en:P.cellsOf e=1)(h:Gp enc P W fuel t cs=some x):
 ∃(l:List Int) (b:Option Addr) (c:Nat),cs.map (n6 P W)=[.slice b l.length c]/\∀bA,fg (xp P W) bA 1 (.slice b l.length c) l.length (l.map (Value.int .i64)):=by
 obtain⟨b,n,c,rows,el,ds,m,ae,ag,aE,a6,dK,ga,_,_⟩:=Ws aM en (by omega) h;have hlen:rows.length=n:=by have:=(aE 0).len;simpa using this
 have hint:∀v∈rows,∃i:Int,v=.int .i64 i:=fun v az=>by
  obtain⟨j,aW⟩:=XS az;have aDU:j<n:=by have:=(dO.1 aW).1;omega
  obtain⟨aN,aH,y,bo,db⟩:=ga j _ (cU (show j<el.length by omega));obtain⟨i,dc,_⟩:=DataW.trod_int he db;rw[dc] at aH;rw[jr] at aH;have:((rows.drop j).take 1)[0]?=some v:=by rw[iY,aP (by omega),n2,pc];exact aW
  rw[aH] at this;injection this with this
  exact⟨i,this.symm⟩
 have aj:∃l:List Int,rows=l.map (Value.int .i64):=by
  clear aE ga hlen
  induction rows with
  |nil=>exact⟨[],I⟩
  |cons v r aC=>
   obtain⟨i,hi⟩:=hint v (.head _);obtain⟨l,aj⟩:=aC (fun v az=>hint v (.tail _ az));exact⟨i::l,by rw[hi,aj];rfl⟩
 obtain⟨l,rfl⟩:=aj;have gY:n=l.length:=by simpa using hlen.symm
 subst gY;refine⟨l,b,c,ae,fun bA=>?_⟩;have:=aE bA;have aF:(l.map (Value.int .i64)).map (n6 P W)=l.map (Value.int .i64):=by
  rw[rh];exact GX fun i _=>LL I
 rwa [aF] at this
def UO(aM:P.underlying t=some (.int .i64))(h:Gp enc P W fuel t cs=some x):∃i:Int,cs=[.int .i64 i]/\cs.map (n6 P W)=[.int .i64 i]:=by
 obtain⟨i,rfl,_⟩:=DataW.trod_int aM h;exact⟨i,I,by rw[tp,LL I];rfl⟩
end
open Go.WideShapes
def uf {α:Type}:List (Nat×α)->Nat->Option α
 |[],_=>none
 |(u,v)::l,t=>bif Nat.beq t u then some v else uf l t
def FO:Nat->List Nat->Bool
 |_,[]=>false
 |t,u::l=>bif Nat.beq t u then true else FO t l
def agV{H:Type}{enc:TypeId×Value->H}{P:Program}{W yd:World}(aj:laidOutB P=true)(ak:Below W.heap.size W yd){sp:Nat->Bool}:
 ∀{ts:List TypeId} {vs:List Value} {ds:List (DataW H)} {ps:List MemPlace},(∀t∈ts,P.readableRec t=true/\t<P.types.size)->DataW.TrodAll enc P W 0 (fun _=>true) true ts vs ds ps->(∀p∈ps,p.block<W.heap.size)->(∀p∈ps,sp p.block=true)->DataW.TrodAll enc P yd 0 sp true ts vs ds ps
 |[],_,_,_,_,h,_,_=>by
  obtain⟨rfl,rfl,rfl⟩:=trodAll_nil h;rfl
 |t::ts,_,_,_,ar,h,cI,hs=>by
  obtain⟨v,aAE,d,wT,a,b,rfl,rfl,rfl,ae,ag⟩:=trodAll_cons h
  exact⟨a,b,WideElems.Trod_stays aj (ar t (.head _)).1 (ar t (.head _)).2 ae (fun x U=>ak.same (cI x (tq _ U))) (fun x U=>hs x (tq _ U)),
   agV aj ak (fun u hu=>ar u (.tail _ hu)) ag (fun p ap=>cI p (j7 _ ap)) (fun p ap=>hs p (j7 _ ap)),I⟩
def awQ{H:Type}{enc:TypeId×Value->H}{P:Program}{f:Func}{s:ChangeSpec}{apart fresh handsOn:Bool}{W yd:World}{args:Array Value}{v:Value}{ds gs:List (DataW H)}{before:List MemPlace}
 (k1:DataW.Whole enc P f.params.toList s.vars apart W args.toList ds gs before)(ak:Below W.heap.size W yd)(aj:laidOutB P=true)(arK:∀t∈f.params.toList,P.readableRec t=true/\t<P.types.size)(az:s.vars=[])
 (qI:(s.fn H (ds++gs)).args=ds)(Jw:(s.fn H (ds++gs)).vars=[])
 (pr:∀(b:Nat) (sp:Nat->Bool) (av:Bool),DataW.TrodAll enc P yd b sp av f.resultTypes.toList (v.resultList f.resultTypes.size) (s.fn H (ds++gs)).results []):
 s.post enc P f apart fresh handsOn false W args v yd:=by
 have cI:=k1.lt;obtain⟨p,q,ae,ag,rfl,aE,a6⟩:=id k1;have Cp:∀x∈p,x.block<W.heap.size:=fun x U=>cI x (tq _ U);refine⟨ds,gs,p++q,[],p,[],k1,pr _ _ _,?_,?_,World.keptBut_mono (fun p ap=>by cases ap) (ak.frame fun p=>p∈([]:List MemPlace)),fun h=>by cases h⟩
 ·rw[qI];exact agV aj ak arK ae Cp (fun x U=>by simpa using Cp x U)
 ·rw[az,Jw];rfl
open Go.Proofs
def r1:Tryz.prog.follows .mixedOrders=true:=by kernel_rfl
def num:Vy Tryz.prog=true:=by kernel_rfl
abbrev jD:Program:=Tryz.prog
abbrev aU (Q:da Tryz.prog)(g0:Nat):dW:=⟨Tryz.prog,EM Tryz.prog,ae1 r1 num,Q,g0⟩
section
variable (Q:da jD)(g0:Nat)
def Qy:List (Nat×Option Nat):=[(3,none),(4,none),(5,none),(22,none),(23,none),(24,none),(26,some 3),(29,none),(32,none),(33,none),(34,none),(37,some 2),(38,none),(40,some 2),(41,none),(48,none),(50,some 3),(62,none),(63,none),(67,some 3),(72,none),(74,none),(83,none),(85,some 3),(92,none),(96,some 6),(121,none),(142,some 4),(190,none),(206,none)]
def ajk:Qy.map (fun x=>tu jD x.1)=Qy.map (fun x=>some (id x.2)):=by kernel_rfl
def WG:List (Nat×Nat):=[(3,1),(4,1),(22,1),(23,1),(24,1),(26,3),(33,1),(37,2),(38,1),(40,2),(41,1),(50,3),(62,1),(63,1),(67,3),(72,1),(74,1),(85,3),(92,1),(96,6),(107,1),(121,1),(142,4),(191,4),(207,64)]
def azt:WG.map (fun x=>e6 jD x.1)=WG.map (fun x=>some (id x.2)):=by kernel_rfl
def R4:List (Nat×Nat):=[(2600,0),(2601,1),(2602,2),(3100,0),(3101,1),(3700,0),(3701,1),(4000,0),(4001,1),(5000,0),(5001,1),(5002,2),(6500,0),(6501,1),(6502,2),(6503,3),(6504,4),(6505,5),(6507,7),(6700,0),(6701,1),(6702,2),(8500,0),(8501,1),(8502,2),(9600,0),(9601,1),(9602,2),(9603,3),(9604,4),(9605,5),(10700,0),(14200,0),(14201,1),(14202,2),(14203,3),(15600,0),(15601,3),(15602,4),(15603,5)]
def anS:R4.map (fun x=>EJ jD (x.1 / 100) (x.1 % 100))=R4.map (fun x=>some (id x.2)):=by kernel_rfl
def QE:List (Nat×(Nat×Nat×Nat)):=[(191,4,190,1),(207,64,5,1)]
def ajC:QE.map (fun x=>z8 jD x.1)=QE.map (fun x=>some (id x.2)):=by kernel_rfl
def RN:List (Nat×Nat):=[(22,1),(23,6),(24,2),(32,1),(33,1),(34,3),(38,1),(47,1),(48,1),(62,3),(63,4),(72,1),(74,3),(83,1)]
def am2:RN.map (fun x=>EB jD x.1)=RN.map (fun x=>some (id x.2)):=by kernel_rfl
def Rw:List (Nat×IntKind):=[(20092,.u32),(30092,.u32),(30121,.u64),(30176,.u64),(50003,.i64),(920002,.i64),(920003,.i64),(920121,.u64),(1210002,.i64),(1210003,.i64),(1210005,.u8),(1210092,.u32),(1760003,.i64)]
def alP:Rw.map (fun x=>isInt jD (x.1 / 10000) (x.1 % 10000))=Rw.map (fun x=>some (id x.2)):=by kernel_rfl
def QU:List (Nat×(Sum (List (Nat×Nat)) Nat×List Value)):=[(26,.inl [(0,1),(1,1),(2,1)],[(.int .i64 (0)),(.slice none 0 0),(.slice none 0 0)]),(31,.inl [(0,1),(1,1)],[(.slice none 0 0),(.int .i64 (0))]),(37,.inl [(0,1),(1,1)],[(.int .i64 (0)),(.int .i64 (0))]),(40,.inl [(0,1),(1,1)],[(.int .i64 (0)),(.slice none 0 0)]),(50,.inl [(0,1),(1,1),(2,1)],[(.bool false),(.slice none 0 0),(.slice none 0 0)]),(65,.inl [(0,1),(1,1),(2,1),(3,1),(4,1),(5,1),(6,1),(7,3)],[(.pointer none),(.slice none 0 0),(.slice none 0 0),(.int .i64 (0)),(.int .i64 (0)),(.bool false),(.bool false),(.int .i64 (0)),(.slice none 0 0),(.slice none 0 0)]),(67,.inl [(0,1),(1,1),(2,1)],[(.int .i64 (0)),(.int .i64 (0)),(.int .i64 (0))]),(85,.inl [(0,1),(1,1),(2,1)],[(.bool false),(.slice none 0 0),(.slice none 0 0)]),(96,.inl [(0,1),(1,1),(2,1),(3,1),(4,1),(5,1)],[(.int .i64 (0)),(.int .i64 (0)),(.int .i64 (0)),(.slice none 0 0),(.slice none 0 0),(.slice none 0 0)]),(107,.inl [(0,1)],[(.int .i64 (0))]),(142,.inl [(0,1),(1,1),(2,1),(3,1)],[(.int .i64 (0)),(.int .i64 (0)),(.slice none 0 0),(.int .i64 (0))]),(156,.inl [(0,3),(3,1),(4,1),(5,1)],[(.int .i64 (0)),(.slice none 0 0),(.slice none 0 0),(.slice none 0 0),(.slice none 0 0),(.slice none 0 0)]),(191,.inr 1,[.nilFunc,.nilFunc,.nilFunc,.nilFunc]),(207,.inr 1,[(.int .u8 (0)),(.int .u8 (0)),(.int .u8 (0)),(.int .u8 (0)),(.int .u8 (0)),(.int .u8 (0)),(.int .u8 (0)),(.int .u8 (0)),(.int .u8 (0)),(.int .u8 (0)),(.int .u8 (0)),(.int .u8 (0)),(.int .u8 (0)),(.int .u8 (0)),(.int .u8 (0)),(.int .u8 (0)),(.int .u8 (0)),(.int .u8 (0)),(.int .u8 (0)),(.int .u8 (0)),(.int .u8 (0)),(.int .u8 (0)),(.int .u8 (0)),(.int .u8 (0)),(.int .u8 (0)),(.int .u8 (0)),(.int .u8 (0)),(.int .u8 (0)),(.int .u8 (0)),(.int .u8 (0)),(.int .u8 (0)),(.int .u8 (0)),(.int .u8 (0)),(.int .u8 (0)),(.int .u8 (0)),(.int .u8 (0)),(.int .u8 (0)),(.int .u8 (0)),(.int .u8 (0)),(.int .u8 (0)),(.int .u8 (0)),(.int .u8 (0)),(.int .u8 (0)),(.int .u8 (0)),(.int .u8 (0)),(.int .u8 (0)),(.int .u8 (0)),(.int .u8 (0)),(.int .u8 (0)),(.int .u8 (0)),(.int .u8 (0)),(.int .u8 (0)),(.int .u8 (0)),(.int .u8 (0)),(.int .u8 (0)),(.int .u8 (0)),(.int .u8 (0)),(.int .u8 (0)),(.int .u8 (0)),(.int .u8 (0)),(.int .u8 (0)),(.int .u8 (0)),(.int .u8 (0)),(.int .u8 (0))])]
def ajX:QU.map (fun x=>Hz jD x.1)=QU.map (fun x=>some (id x.2)):=by kernel_rfl
def acW:List Nat:=[22,23,24,32,33,34,38,47,48,62,63,72,74,83]
def isOk:acW.all (fun t=>isSlice jD t)=true:=by kernel_rfl
def acX:List Nat:=[9]
def as9:acX.all (fun t=>FD jD t)=true:=by kernel_rfl
def aei:List Nat:=[9,107]
def auV:aei.all (fun t=>CP jD t)=true:=by kernel_rfl
def Xj:List (Nat×Value):=[(3,(.int .i64 (0))),(26,(.agg #[(.int .i64 (0)),(.slice none 0 0),(.slice none 0 0)])),(33,(.slice none 0 0)),(37,(.agg #[(.int .i64 (0)),(.int .i64 (0))])),(40,(.agg #[(.int .i64 (0)),(.slice none 0 0)])),(41,(.int .i64 (0))),(50,(.agg #[(.bool false),(.slice none 0 0),(.slice none 0 0)])),(67,(.agg #[(.int .i64 (0)),(.int .i64 (0)),(.int .i64 (0))])),(72,(.slice none 0 0)),(74,(.slice none 0 0)),(85,(.agg #[(.bool false),(.slice none 0 0),(.slice none 0 0)])),(96,(.agg #[(.int .i64 (0)),(.int .i64 (0)),(.int .i64 (0)),(.slice none 0 0),(.slice none 0 0),(.slice none 0 0)])),(107,(.agg #[(.int .i64 (0))])),(121,(.int .u64 (0))),(142,(.agg #[(.int .i64 (0)),(.int .i64 (0)),(.slice none 0 0),(.int .i64 (0))])),(191,(.agg #[.nilFunc,.nilFunc,.nilFunc,.nilFunc]))]
def aBk:Xj.map (fun x=>h2 jD x.1)=Xj.map (fun x=>some (id x.2)):=by kernel_rfl
def Wk:List (Nat×(TypeId×Nat×List Value)):=[(22,3,1,[(.int .i64 (0))]),(23,96,6,[(.int .i64 (0)),(.int .i64 (0)),(.int .i64 (0)),(.slice none 0 0),(.slice none 0 0),(.slice none 0 0)]),(24,37,2,[(.int .i64 (0)),(.int .i64 (0))]),(32,34,1,[(.slice none 0 0)]),(33,34,1,[(.slice none 0 0)]),(34,50,3,[(.bool false),(.slice none 0 0),(.slice none 0 0)]),(38,22,1,[(.slice none 0 0)]),(47,92,1,[(.int .u32 (0))]),(48,92,1,[(.int .u32 (0))]),(62,67,3,[(.int .i64 (0)),(.int .i64 (0)),(.int .i64 (0))]),(63,142,4,[(.int .i64 (0)),(.int .i64 (0)),(.slice none 0 0),(.int .i64 (0))]),(72,74,1,[(.slice none 0 0)]),(74,85,3,[(.bool false),(.slice none 0 0),(.slice none 0 0)]),(83,121,1,[(.int .u64 (0))])]
def ayj:Wk.map (fun x=>nF jD x.1)=Wk.map (fun x=>some (id x.2)):=by kernel_rfl
def Dp:(aU Q g0).P.underlying 22=some (.slice 3):=by kernel_rfl
def az0:(aU Q g0).P.underlying 23=some (.slice 96):=by kernel_rfl
def az1:(aU Q g0).P.underlying 24=some (.slice 37):=by kernel_rfl
def Px:(aU Q g0).P.underlying 33=some (.slice 34):=by kernel_rfl
def az2:(aU Q g0).P.underlying 34=some (.slice 50):=by kernel_rfl
def agY:(aU Q g0).P.underlying 38=some (.slice 22):=by kernel_rfl
def zG:(aU Q g0).P.underlying 48=some (.slice 92):=by kernel_rfl
def az3:(aU Q g0).P.underlying 62=some (.slice 67):=by kernel_rfl
def az4:(aU Q g0).P.underlying 63=some (.slice 142):=by kernel_rfl
def az5:(aU Q g0).P.underlying 72=some (.slice 74):=by kernel_rfl
def WQ:(aU Q g0).P.underlying 83=some (.slice 121):=by kernel_rfl
def asU:NV (aU Q g0).P 37=some 2:=by kernel_rfl
def acQ:isIface (aU Q g0).P 20=true:=by kernel_rfl
end
section
variable {K:dW}{B:dN}{o:Oper}{n:Nat}{ds:er}{l:List (Nat×Value)}{m m':aJ}{J:ai}{fe:bY->aJ->ai->Prop}{d:Nat}
def Ev (k:IntKind)(a b:Int):BinOp->Option Value
 |.quo=>some (.int k (k.wrap (a.tdiv b)))
 |.rem=>some (.int k (a.tmod b))
 |_=>none
def aAb{op:BinOp}{t eE:TypeId}{x y:Operand}{k:IntKind}{a b:Int}{v:Value}(al:o.op=.binOp op t x y eE)(U:bS l x=some (.int k a))(an:bS l y=some (.int k b))(az:Ev k a b op=some v)(ak:b≠0):dr K B o n ds l m J v:=by
 intro call aO S H au aD;unfold cA fi;simp only[al];show mG K.P _ op t (a5 S.T H x) (a5 S.T H y)=_;rw[dw au H U,dw au H an];show(bif ny k k then kf H k a b _ op else _)=_;rw[FG,cd];have key:∀(zp:BinOp),op=zp->(zp=.quo\/zp=.rem)->fQ K.P S.T H o=some (.val v H):=by
  intro zp e h;subst e;refine p9 au (by rw[al];rfl) U an I I ?_ ?_
  ·unfold execOp;simp only[al];rw[jb au H U,jb au H an];rcases h with rfl|rfl
   ·simp only[Ev,cb] at az;subst az;have aB:fw K.P (eqGuard .quo t x y (.int k a) (.int k b))=some ():=rfl;have kE:binOp .quo t (.int k a) (.int k b)=pure (.int k (k.wrap (a.tdiv b))):=by simp[binOp,Op.intDiv,ak]
    rw[e' (a:=.int k (k.wrap (a.tdiv b)))]
    ·rfl
    rw[e' aB,kE];rfl
   ·simp only[Ev,cb] at az;subst az;have aB:fw K.P (eqGuard .rem t x y (.int k a) (.int k b))=some ():=rfl;have kE:binOp .rem t (.int k a) (.int k b)=pure (.int k (a.tmod b)):=by simp[binOp,Op.intDiv,ak]
    rw[e' (a:=.int k (a.tmod b))]
    ·rfl
    rw[e' aB,kE];rfl
  ·rcases h with rfl|rfl<;>simp only[Ev,cb] at az<;>subst az<;>rfl
 cases op<;>simp only[Ev,reduceCtorEq] at az
 ·exact key _ I (.inl I)
 ·exact key _ I (.inr I)
end
structure dz {α:Type} (J:ai) (e:TypeId) (sz:Nat) (R:α->List Value->Prop) (v:Value) (xs:List α):Prop where
 ex:∃cs,fg J e sz v xs.length cs/\∀i x,xs[i]?=some x->R x ((cs.drop (i*sz)).take sz)
def dz.mono{α:Type}{J ah:ai}{e:TypeId}{sz:Nat}{R R':α->List Value->Prop}{v:Value}{xs:List α}(hle:J.le ah)(dU:∀x cs,R x cs->R' x cs)(h:dz J e sz R v xs):dz ah e sz R' v xs:=by
 obtain⟨cs,ae,ag⟩:=h;exact⟨cs,ae.mono hle,fun i x U=>dU _ _ (ag i x U)⟩
def fg.addr{J:ai}{e:TypeId}{sz n c:Nat}{b:Option Addr}{cs:List Value}{k:Nat}(h:fg J e sz (.slice b n c) k cs):addrEq b b=true:=by
 cases h with
 |nil=>rfl
 |kA a off cap h=>simp[addrEq]
 |Ah=>rfl
 |row ae ag aE a6 dK=>simp[addrEq]
def dz.addr{α:Type}{J:ai}{e:TypeId}{sz n c:Nat}{b:Option Addr}{R:α->List Value->Prop}{xs:List α}(h:dz J e sz R (.slice b n c) xs):addrEq b b=true:=by
 obtain⟨cs,ae,_⟩:=h;exact ae.addr
def dz.get{α:Type}{J:ai}{e:TypeId}{sz n c:Nat}{b:Option Addr}{R:α->List Value->Prop}{xs:List α}(h:dz J e sz R (.slice b n c) xs):n=xs.length/\(0<xs.length->∃a off cells bA,b=some ⟨a,off,none⟩/\J a=some (cells,bA)/\
 ∀(i:Nat) (x:α),xs[i]?=some x->∃cs,takeN sz (qH (off+((i:Nat):Int).toNat*sz) cells)=some cs/\R x cs):=by
 obtain⟨cs,ae,ag⟩:=h;have aA:n=xs.length:=by
  obtain⟨b',c',aE,_⟩:=ae.inv;injection aE
 refine⟨aA,fun acg=>?_⟩;generalize hk:xs.length=k at ae;cases ae with
 |nil=>omega
 |kA=>omega
 |Ah=>omega
 |@row a off len cap cells cs bA aX aT bd cm fz=>
  refine⟨a,off,cells,bA,I,aX,fun i x U=>⟨_,?_,ag i x U⟩⟩;have hi:i<xs.length:=(dO.1 U).1;rw[<-hk] at aT bd;have hle:i*sz+sz<=xs.length*sz:=by rw[<-nf];exact hJ _ hi
  have ax:xs.length*sz<=(cells.drop off).length:=by
   have:((cells.drop off).take (xs.length*sz)).length=xs.length*sz:=by rw[aT];exact bd
   rw[eL] at this;omega
  rw[jO] at ax;rw[wS,zC (by rw[jO];simp;omega),<-aT];congr 1
  rw[DR,zU,qq,gv (by omega)];simp
section
variable {K:dW}
end
section
variable {K:dW}{B:dN}{o:Oper}{n:Nat}{ds:er}{l:List (Nat×Value)}{m m':aJ}{J:ai}{fe:bY->aJ->ai->Prop}{d:Nat}{cp:Exit->bY->aJ->ai->Prop}
def W.nZ{ops rest:List Oper}{E:bY}{bq:Option (List PanicEntry)->bY->aJ->ai->Prop}(ap:m'.Perm m)(h:W K B ops rest E m' J bq):W K B ops rest E m J bq:=fun S H au aD=>h S H au (aD.perm ap.symm)
def Fn.perm{f:FuncId}{args:List Value}{a1:aJ}{dI Yi:Value->aJ->ai->Prop}(h:Fn K f args a1 J dI)(ap:∀v m' ah,dI v m' ah->∃cX,m'.Perm cX/\Yi v cX ah):Fn K f args a1 J Yi:=fun H aD=>by
 obtain⟨v,H',ah,cz,a,b,c⟩:=h H aD;obtain⟨cX,aN,aH⟩:=ap v cz ah c;exact⟨v,H',ah,cX,a,b.perm aN,aH⟩
end
def ac6{qW:Nat}:∀(l:List Nat) {H:aw},j9 H->(∀x∈l,x<H.ao)->∃H',uc H qW l=some H'/\j9 H':=by
 intro l;induction l with
 |nil=>intro H w _;exact⟨H,I,w⟩
 |cons x l aC=>
  intro H w h;simp only[uc];cases ak:Nat.beq x qW with
  |true=>exact aC w fun y an=>h y (.tail _ an)
  |false=>
   obtain⟨H1,aF⟩:=w.upd .dead (h x (.head _));rw[dQ,aF];exact aC (w.Pz (h x (.head _)) aF) fun y an=>by rw[(aw.r7 aF).1];exact h y (.tail _ an)
section
variable {g0:Nat}{B:dN}{H:aw}{J:ai}{m m':aJ}
def Inv.kill{a z:Nat}{cells:List Value}{e:TypeId}{rest:List Nat}(h:Inv g0 B J ((a,.opn cells e rest z)::m) H)(cells':List Value)(h8:Nat):
 ∃f H1 bT,H.mem.get a=some (.row cells e true f z false)/\H.upd a (.row cells' e true f h8 false)=some H1/\AL H1 a f=some bT/\Inv g0 B J ((a,.opn cells' e [] h8)::m) bT:=by
 obtain⟨aX,aT,bd,cm⟩:=h.own a _ (.head _);obtain⟨f,f1,f2,f3⟩:=aX;have cI:=h.lt (.head _);have eb:=h.gZ;rw[show ids ((a,df.opn cells e rest z)::m)=a::(rest++ids m) from I,uL,mm,Lq] at eb;obtain⟨tQ,Fg,Nr,Tf⟩:=eb;obtain⟨H1,aF⟩:=h.wf.upd (.row cells' e true f h8 false) cI;have bE:=h.wf.Pz cI aF;obtain⟨fK,iO,mj,zF,uA⟩:=aw.r7 aF;have qQ:∀x∈a::rest,x<H1.ao:=fun x U=>by
  rw[fK];rcases fs.1 U with q|q
  ·subst q;exact cI
  ·exact(h.opn a _ (.head _) x q).1
 obtain⟨bT,aV,ct⟩:=ac6 (qW:=a) (a::rest) bE qQ;obtain⟨v1,v2,nH,v4,Bi,v6⟩:=N2 aV;have jd:f<bT.cC:=by rw[nH,mj];exact h.wf.Ik f3
 obtain⟨fL,cj⟩:=ct.td [a] jd;obtain⟨s2,s1,jZ,Gh,vW⟩:=aw.Gj cj;have aq':fL.mem.get a=some (.row cells' e true f h8 false):=by rw[s1,v6 a (.inr I),uA,aP I]
 have Ct:∀x,x≠a->x∉rest->fL.mem.get x=H.mem.get x:=fun x aN aH=>by
  rw[s1,v6 x (.inl (fun q=>by rcases fs.1 q with q|q;exact aN q;exact aH q)),uA,aG aN]
 have E5:∀g,g≠f->fL.bF.get g=H.bF.get g:=fun g q=>by rw[vW,aG q,v2,iO]
 have hZ:fL.ao=H.ao:=by rw[s2,v1,fK]
 refine⟨f,H1,fL,f2,aF,?_,⟨ct.Wl jd cj,by rw[Gh,v4,zF];exact h.bJ,by rw[hZ];exact h.ao,by rw[jZ,nH,mj];exact h.cC,fun x U eO=>?_,fun g aB=>?_,fun x c bA aW=>?_,h.le,h.fresh,fun x b ak=>?_,fun x b ak y an=>?_,?_⟩⟩
 ·unfold AL
  rw[iO,f3];simp only[aV,cj]
 ·rw[Ct x (fun q=>by subst q;rcases aT with q|q;·omega
                     ·exact eO q) (fun q=>by rcases(h.opn a _ (.head _) x q).2.1 with r|r;·omega
                                             ·exact eO r)]
  exact h.fU x U eO
 ·rw[E5 g (fun q=>aB (by rw[q];exact f1))];exact h.oe g aB
 ·obtain⟨o,ck,iV,s,q⟩:=h.eG x c bA aW
  exact⟨o,ck,iV,s,by rw[Ct x (fun r=>by subst r;rw[bd] at aW;cases aW) (fun r=>by have:=(h.opn a _ (.head _) x r).2.2;rw[this] at aW;cases aW)];exact q⟩
 ·rcases fs.1 ak with q|q
  ·injection q with aN aH;subst aN;subst aH
   exact⟨⟨f,f1,aq',by rw[vW,aP I]⟩,aT,bd,cm⟩
  ·obtain⟨eR,eo,kJ,m0⟩:=h.own x b (.tail _ q)
   have CC:x∈ids m:=AJ q;refine⟨?_,eo,kJ,m0⟩;refine df.yg eR (Ct x (fun r=>tQ (.inr (r▸CC))) (fun r=>Tf _ r _ CC I)) fun g r aB=>?_;rw[E5 g (fun dE=>by
        subst dE;rw[f3] at aB;injection aB with aB;injection aB with aB
        exact tQ (.inr (aB▸CC)))]
   exact aB
 ·rcases fs.1 ak with q|q
  ·injection q with aN aH;subst aN;subst aH;cases an
  ·rw[hZ];exact h.opn x b (.tail _ q) y an
 ·show(a::([]++ids m)).Nodup
  rw[nL,uL];exact⟨fun q=>tQ (.inr q),Nr⟩
end
section
variable {K:dW}{B:dN}{o:Oper}{n:Nat}{ds:er}{l:List (Nat×Value)}{m m':aJ}{J:ai}{fe:bY->aJ->ai->Prop}{d:Nat}
def au6{g0:Nat}{H:aw}(aD:Inv g0 B J m H){a:Nat}(h:g0<=a):Nat.blt a H.bJ=false:=by
 cases q:Nat.blt a H.bJ
 ·rfl
 ·have:a<H.bJ:=by simpa[Nat.blt,x'] using q
  have:=aD.bJ;omega
def GA{t:TypeId}{x y:Operand}{a off k z:Nat}{v:Value}{vs cells cells':List Value}{e:TypeId}{rest:List Nat}{e1:aJ}(al:o.op=.store t x y)(av:o.dst=none)(U:bS l x=some (.pointer (some ⟨a,off,none⟩)))(an:bS l y=some v)(hk:e6 K.P t=some k)(ax:v.cells.toList=vs)(aj:Nat.beq vs.length k=true)(aQ:Nat.blt 0 vs.length=true)(ae:vs.all fx=true)(hs:gO off cells vs=some cells')(aR:z<=off)(ap:m.Perm ((a,.opn cells e rest z)::e1))(h:fe ⟨n,ds,l⟩ ((a,.opn cells' e [] z)::e1) J):kr K B o ⟨n,ds,l⟩ m J fe:=by
 refine kr.skip av fun S H au aD=>?_;have aD:=aD.perm ap;obtain⟨f,H1,bT,aF,aV,cj,eT⟩:=aD.kill cells' z;obtain⟨aX,aT,bd,cm⟩:=aD.own _ _ (.head _);refine⟨bT,_,J,fun call aO=>?_,eT,h⟩;unfold cA fi;simp only[al];show F6 K.P _ t (a5 S.T H x) (a5 S.T H y)=_;rw[dw au H U,dw au H an];show M1 (BW K.P H t (.pointer (some ⟨a,off,none⟩)) v)=_;unfold BW;simp only[hk,ax,aj,cd];unfold tC;cases vs with
 |nil=>cases aQ
 |cons d' vs=>
  simp only
  rw[au6 aD cm,dQ,aF];simp only[show Nat.ble z off=true from nc aR,Xu,ae,cd,hs,aV,cj];rfl
def Bk{c:Call}{x y:Operand}{k:IntKind}{a b:Int}(al:o.op=.call c)(ax:c.callee=.builtin .max)(iI:c.args.toList=[x,y])(U:bS l x=some (.int k a))(an:bS l y=some (.int k b)):dr K B o n ds l m J (.int k (max a b)):=by
 intro call aO S H au aD;rw[H9 al ax];have qI:c.args=#[x,y]:=by rw[<-Array.toList_inj];exact iI
 have:fQ K.P S.T H o=some (.val (.int k (max a b)) H):=by
  refine p9 au ?_ U an I I ?_ I
  ·rw[al];show(Call.operands c).toList=_;simp[Call.operands,ax,qI]
  ·unfold execOp;simp only[al];have ar:fw K.P (resolve (s' S.T H) c o.type)=some {target:=.builtin .max c.argTypes o.type (c.args.map fun|.const _=>true|_=>false),args:=#[.int k a,.int k b]}:=by
    unfold resolve;simp only[ax,qI];show some _=some _;simp[jb au H U,jb au H an];exact⟨by cases x<;>rfl,by cases y<;>rfl⟩
   rw[e' ar];show fw K.P ((Builtin.max_ c.argTypes o.type #[.int k a,.int k b]) >>= fun v=>pure (Next.value v))=_;have:fw K.P (Builtin.max_ c.argTypes o.type #[.int k a,.int k b])=some (.int k (max a b)):=by
    show some (Value.int k (if b>a then b else a))=_;congr 2
    split<;>omega
   rw[e' this];rfl
 unfold tB;rw[pQ au H (vs:=[.int k a,.int k b]) (by rw[iI];simp only[jH,U,an])];exact this
def uD{c:Call}{t iA e:TypeId}{sz k j:Nat}{gA cells new:List Value}{v x:Value}{aS e1:aJ}{e0:TypeDesc}(al:o.op=.call c)(ax:c.callee=.builtin .append)(av:o.dst=some d)(aA:Nat.blt d n=true)(aI:jH l c.args.toList=some [v,x])(tV:c.argTypes.toList=[t,iA])(aM:nF K.P t=some (e,sz,gA))(lN:K.P.underlying iA=some e0)(xh:∀i,e0≠.int i)
 (az:Acc e sz v k cells aS)(hm:m.Perm (aS++e1))(U:pe K.g0 B J m sz x j new)(cH:new.length=j*sz)(c7:new.all fx=true)(aj:k+j<=1000000)
 (h:∀w kj,Acc e sz w (k+j) (cells++new) kj->(iV aS->iV kj)/\(vH aS->vH kj)->fe ⟨n,ds,(d,w)::l⟩ (kj++e1) J):kr K B o ⟨n,ds,l⟩ m J fe:=fun S H au aD=>
 ahL al ax av aA aI tV aM lN xh az I (U.perm hm) cH c7 aj h S H au (aD.perm hm)
def Pm{α:Type}{f:α->Value}{L:List α}{i:Nat}{x:α}(h:i<L.length):gO i (L.map f) [f x]=some ((L.set i x).map f):=by
 rw[xT _ _ _ (by rw[e9,x8];omega)];congr 1
 rw[P',XZ,aP (by rw[e9];exact h)];simp
def Pl{L:List Int}{off:Nat}{x:Int}(i:Nat)(h:i<L.length)(al:off=i:=by omega):gO off (L.map (Value.int .i64)) [.int .i64 x]=some ((L.set i x).map (Value.int .i64)):=by subst al;exact Pm (f:=Value.int .i64) h
def avf{L:List Int}{off:Nat}{x:Int}(i:Nat)(h:L[i]?=some x)(al:off=i:=by omega):nth (L.map (Value.int .i64)) off=some (.int .i64 x):=by subst al;rw[lQ,h',h];rfl
def Xm{v:Value}{k:Nat}:fp [v] k=List.replicate k v:=by
 show Xl v k=_;induction k with
 |zero=>rfl
 |succ k aC=>show v::Xl v k=_;rw[aC];rfl
def ahS{k:Nat}:fp [.int .i64 0] k=(List.replicate k (0:Int)).map (Value.int .i64):=by rw[Xm,List.map_replicate]
end
section
variable {K:dW}{B:dN}{ops:List Oper}{a0:List jM}{F:List (FuncId×List Value)}{E:bY}{m m':aJ}{J:ai}{o:Oper}{bq:bY->aJ->ai->Prop}
variable {n:Nat}{ds:er}{l:List (Nat×Value)}{d i:Nat}
def bX.makeSlice{t e:TypeId}{x y:Operand}{sz:Nat}{gA:List Value}{p q:Int}{ub N3:IntKind}(hi:nth ops i=some o)(aB:o.guard=none)(al:o.op=.makeSlice t x y)(av:o.dst=some d)(aA:Nat.blt d n=true)(U:bS l x=some (.int ub p))(an:bS l y=some (.int N3 q))(aM:nF K.P t=some (e,sz,gA))(aQ:0<=p)(ae:p<=q)(ag:q<=1000000)
 (h:∀a,bX K B ops a0 F ⟨n,ds,(d,.slice (some ⟨a,0,none⟩) p.toNat q.toNat)::l⟩ ((a,.row (fp gA q.toNat) e)::m) J bq):bX K B ops (.iF i::a0) F ⟨n,ds,l⟩ m J bq:=by
 obtain⟨hu,en,jR,z,iR,aR,bc,rfl,bl,b0,dp⟩:=vX aM;refine bX.iF (b:=.row (fp z.cells.toList q.toNat) e false 0 0 false) (p:=.row (fp z.cells.toList q.toNat) e) (eK:=.De p.toNat q.toNat) hi aB av aA (fun S au=>?_) (fun H a q=>q) (fun c e r z q=>by cases q) h;rw[al];simp only[oG];rw[VO au U,VO au an];simp only[Hm,hu,aR,iR,en];rw[JI (by omega) (by omega),JI (by omega) (by omega)];simp only[bc,b0,dp,K8];rw[show Nat.beq z.cells.toList.length sz=true by rw[bl];exact ix _,show Nat.ble p.toNat q.toNat=true from nc (by omega)];simp only[K8,cd]
def bX.nZ(ap:m.Perm m')(h:bX K B ops a0 F E m' J bq):bX K B ops a0 F E m J bq:=fun S H au aD=>h S H au (aD.perm ap)
end
end
end Go.Opn

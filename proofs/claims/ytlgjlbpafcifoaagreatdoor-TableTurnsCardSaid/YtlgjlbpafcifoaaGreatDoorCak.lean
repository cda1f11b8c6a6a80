/- A part of the proof of TableTurns. -/
import Derived.Test.YtlgjlbpafcifoaaGreatDoorCaj
import Derived.Lib.MakeNoZero
import Derived.KernelRfl
import Derived.ChangeSame
import Derived.Lib.LaidTab
set_option linter.unusedVariables false
set_option linter.unusedSimpArgs false
namespace Go.Cre
noncomputable section
open Go.RowKit
section
variable {P:Program}{B:Nat->Prop}{w0 w:World}{μ e2 bf:bL}{H H1 H':an}{S a0 aC:aV}{fr:Frame}{tmps:Array Value}{ds:List Deferred}{cs gj:List Frame}{k:List Item}
theorem apo(aq:fr.roundOf=none):step P (lone (bH fr tmps ds []) cs w)=.next (lone {bH fr tmps ds [] with mode:=.returning} cs w):=step_lone_go (by simp[stepG,stepG.exec,bH,aq])
theorem apC(aq:fr.roundOf=none):step P (lone (bH fr tmps ds (.code .ret::k)) cs w)=.next (lone {bH fr tmps ds (.code .ret::k) with mode:=.returning} cs w):=step_lone_go (by simp[stepG,stepG.exec,bH,aq])
theorem ant:∀{l l':List Value},l.all plain=true->bT μ l l'->l'=l:=by
 intro l;induction l with
 |nil=>intro l' _ h;exact h.kz
 |cons x l aP=>
  intro l' ao h;obtain⟨dv,m,rfl,ab,ad⟩:=h.iZ;simp only[BG,gg] at ao;rw[aP ao.2 ad,bg.K2 ao.1 ab]
theorem Ya(fn:Func)(ab:fn.name= "internal/bytealg.MakeNoZero"\/fn.name= "internal/abi.NoEscape")(ad:fn.origin= ""):Extern.findNext fn=none:=by
 have aw:Extern.allNextRows.lookup "internal/bytealg.MakeNoZero"=none:=by kernel_rfl
 have aR:Extern.allNextRows.lookup "internal/abi.NoEscape"=none:=by kernel_rfl
 have cf:Extern.allNextRows.lookup ""=none:=by kernel_rfl
 unfold Extern.findNext;rcases ab with ab|ab<;>rw[ab,ad]<;>simp[aw,aR,cf]
theorem agj(fn:Func)(ab:fn.name= "internal/bytealg.MakeNoZero"):Extern.find fn=some (Extern.BytealgMakeNoZero.makeNoZero fn.params fn.resultTypes):=by
 have aw:Extern.allGenericRows.lookup "internal/bytealg.MakeNoZero"=none:=by kernel_rfl
 have aR:Extern.allTypedRows.lookup "internal/bytealg.MakeNoZero"=some Extern.BytealgMakeNoZero.makeNoZero:=by kernel_rfl
 unfold Extern.find;rw[ab];simp[aw,aR]
theorem agk(fn:Func)(ab:fn.name= "internal/abi.NoEscape"):Extern.find fn=some Extern.AbiNoEscape.same:=by
 have aw:Extern.allGenericRows.lookup "internal/abi.NoEscape"=none:=by kernel_rfl
 have aR:Extern.allTypedRows.lookup "internal/abi.NoEscape"=none:=by kernel_rfl
 have cf:Extern.allRows.lookup "internal/abi.NoEscape"=some Extern.AbiNoEscape.same:=by kernel_rfl
 unfold Extern.find;rw[ab];simp[aw,aR,cf]
theorem TZ{f:FuncId}{fn:Func}(aA:P.funcs[f]?=some fn)(ai:fn.body=none)(az:(fn.name== "runtime.NumGoroutine")=false)(ab:Extern.findNext fn=none){x:Array Value->Sem Value}(ad:Extern.find fn=some x){args:Array Value}{v:Value}{a5:World}(U:(x args).run P w=.ok v a5):
 (callFunc f args).run P w=.ok (.value v) a5:=by
 have wN:¬fn.name= "runtime.NumGoroutine":=by simpa using az
 simp[callFunc,program,Sem.run,aA,ai,wN,ab,ad,mark,U]
theorem afM{f:FuncId}{fn:Func}{args bP:List Value}{e:Ending}(aA:P.funcs[f]?=some fn)(ai:fn.body=none)(h:bX P B w0 μ H w)(ap:bT μ args bP)(he:zT P fn f args H=some (e,H')):
 ∃v v' a5 bf,e=.returned v/\(callFunc f bP.toArray).run P w=.ok (.value v') a5/\bX P B w0 bf H' a5/\Step μ bf H H'/\bg bf v v':=by
 unfold zT at he;cases ao:args.all plain with
 |true=>
  rw[ao,b4] at he;obtain rfl:=ant ao ap;have hzero:NF P fn H bP fn.resultTypes.toList=some (e,H')->∃v v' a5 bf,e=.returned v/\(callFunc f bP.toArray).run P w=.ok (.value v') a5/\bX P B w0 bf H' a5/\Step μ bf H H'/\bg bf v v':=by
   intro he;unfold NF at he;split at he
   ·rename_i n t lO _;cases aD:(decide (fn.name= "internal/bytealg.MakeNoZero")&&decide (fn.origin= "")&&Nat.ble n 1000000) with
    |false=>rw[aD] at he;cases he
    |true=>
     rw[aD,b4] at he;simp only[gg,I3] at aD;obtain⟨⟨aK,aH⟩,bJ⟩:=aD;have bJ:=hv bJ;split at he
     ·rename_i el hu;cases ln:Nat.beq (P.cellsOf el) 1 with
      |false=>rw[ln] at he;cases he
      |true=>
       rw[ln,b4] at he;have ln:=eb ln;unfold UG at he;cases gr:H.n8 [] el false with
       |none=>rw[gr] at he;cases he
       |some p=>
        obtain⟨id,H1⟩:=p;rw[gr] at he;simp only[cl,dm] at he;obtain⟨rfl,rfl⟩:=he;obtain⟨EQ,bp,bN,cN⟩:=Lib.run_makeNoZero w fn.params t el hu n (by omega);have ajq:fn.resultTypes=#[t]:=by
         apply qz;rw[lO]
        obtain⟨cL,eA,rfl⟩:=(h.drew.drew).Qp (o:=.cells EQ el) (L:=⟨w.heap.size,EQ.size,1⟩) gr rfl (fun f=>⟨rfl,rfl,ln,df _,(fun q=>by cases q),(fun i v v' q=>by simp at q),⟨fun off _ a b=>by simp at b,fun _=>.inl rfl⟩⟩);refine⟨_,.slice (some ⟨w.heap.size,0,none⟩) n EQ.size,_,_,rfl,?_,cL,eA,.pE _ 0 n EQ.size ⟨w.heap.size,EQ.size,1⟩ (bL.jP _ _ _) bN (by simp)⟩;refine TZ aA ai (by rw[aK];rfl) (Ya fn (.inl aK) aH) (agj fn aK) ?_;rw[ajq];exact bp
     ·cases he
   ·cases he
  unfold NG at he;split at he
  ·rename_i v gF;cases Pm:plain v with
   |false=>rw[Pm] at he;cases he
   |true=>
    rw[Pm,b4] at he;simp only[cl,dm] at he;obtain⟨rfl,rfl⟩:=he;exact⟨v,v,w,μ,rfl,UF gF w,h,Step.refl _ _,py Pm⟩
  ·exact hzero he
 |false=>
  rw[ao,da] at he;unfold UH at he;split at he
  ·rename_i v;cases aD:(decide (fn.name= "internal/abi.NoEscape")&&decide (fn.origin= "")) with
   |false=>rw[aD] at he;cases he
   |true=>
    rw[aD,b4] at he;simp only[gg,I3] at aD;obtain⟨aK,aH⟩:=aD;simp only[cl,dm] at he;obtain⟨rfl,rfl⟩:=he;obtain⟨v',l',rfl,ab,ad⟩:=ap.iZ;obtain rfl:=ad.kz;refine⟨v,v',w,μ,rfl,?_,h,Step.refl _ _,ab⟩;exact TZ aA ai (by rw[aK];rfl) (Ya fn (.inr aK) aH) (agk fn aK) rfl
  ·cases he
theorem aW.UW{α:Type}(a:α):∀(d n:Nat),(aW.full a d).get n=none\/(aW.full a d).get n=some a:=by
 intro d;induction d with
 |zero=>intro n;exact .inl rfl
 |succ d aP=>
  intro n;cases n with
  |zero=>exact .inr rfl
  |succ m=>
   have e:aW.full a (d+1)=.node (some a) (aW.full a d) (aW.full a d):=rfl;rw[e,aW.qV];split<;>exact aP _
theorem acH:∀{l:List Value} {i:Nat} {T dD:aW Value},nJ l i T=some dD->∀t,dD.get t=if i<=t/\t<i+l.length then l[t -i]? else T.get t:=by
 intro l;induction l with
 |nil=>intro i T dD h t;simp[nJ] at h;subst h;rw[aZ (by rw[D7];omega)]
 |cons v l aP=>
  intro i T dD h t;simp only[nJ] at h;cases hs:aW.set DL T i v with
  |none=>rw[hs] at h;cases h
  |some pR=>
   rw[hs] at h;rw[aP h t,aW.NS hs];by_cases ab:i+1<=t/\t<i+1+l.length
   ·rw[a2 ab,a2 (by simp;omega)];have:t -i=(t -(i+1))+1:=by omega
    rw[this];rfl
   ·rw[aZ ab];by_cases ad:t=i
    ·subst ad;rw[a2 rfl,a2 (by simp)];simp
    ·rw[aZ ad,aZ (by simp;omega)]
theorem agq{args bP:List Value}{n:Nat}{T:aW Value}(ap:bT μ args bP)(b1:nJ args 0 (blank n)=some T):jU μ T n (bP.toArray++Array.replicate (n -bP.toArray.size) undef):=by
 refine⟨by simp;omega,fun t v h=>?_⟩;rw[acH b1] at h;by_cases aJ:t<args.length
 ·rw[a2 ⟨df _,by omega⟩,Nat.sub_zero] at h;have J1:t<bP.length:=by have:=ap.1;omega
  have:(bP.toArray++Array.replicate (n -bP.toArray.size) undef).getD t undef=bP[t]:=by
   simp[Sp,J1]
  rw[this];exact ap.2 t v _ h (dX J1)
 ·rw[aZ (by omega)] at h;have hu:v=undef:=by
   rcases aW.UW undef (NK n) t with q|q
   ·unfold blank at h;rw[q] at h;cases h
   ·unfold blank at h;rw[q] at h;injection h with h;exact h.symm
  subst hu;have J1:¬t<bP.length:=by have:=ap.1;omega
  have:(bP.toArray++Array.replicate (n -bP.toArray.size) undef).getD t undef=undef:=by
   simp only[Array.getD_eq_getD_getElem?,Sp,S3,J1,Ay,Array.getElem?_replicate];split<;>rfl
  rw[this];exact bg.undef μ
theorem TN{E:fv}(yo:rB P B w0 E.code)(z':ud P B w0 E.body){f:FuncId}{fn:Func}{c:Code}{args bP:List Value}{bG:Bool}{bd gv:FrameMode}{e:Ending}
 (aA:P.funcs[f]?=some fn)(ai:fn.body=some c)(he:Eu P E fn c bG bd H (nJ args 0 (blank fn.ntmps))=some (e,gv,H'))
 (h:bX P B w0 μ H w)(ap:bT μ args bP)(cs:List Frame)(hZ:bG=true->∃vT rest,cs=vT::rest/\oY μ bd vT.mode):
 ∃bf a5 bC m9 cy,bX P B w0 bf H' a5/\Step μ bf H H'/\zi bf e bC/\Steps P (lone (Frame.enter P f bP.toArray (if bG then .deferred else .normal)) cs w) (lone m9 cy a5)/\
  m9.kind=(if bG then .deferred else .normal)/\m9.fn=f/\m9.going P a5 bC/\jz bG cs cy/\(bG=true->∃bp rest,cy=bp::rest/\oY bf gv bp.mode):=by
 cases b1:nJ args 0 (blank fn.ntmps) with
 |none=>rw[b1] at he;cases he
 |some T=>
  rw[b1] at he;have he:vS P E fn (E.code c ⟨T,fn.ntmps,[],bG,bd,none⟩ H)=some (e,gv,H'):=he
  let ku:Frame:=Frame.enter P f bP.toArray (if bG then .deferred else .normal)
  have kg:ku=bH ku (bP.toArray++Array.replicate (fn.ntmps -bP.toArray.size) undef) [] [.code c]:=by
   simp[ku,Frame.enter,bH,aA,ai]
  have b3:hJ P μ ⟨T,fn.ntmps,[],bG,bd,none⟩ ku (bP.toArray++Array.replicate (fn.ntmps -bP.toArray.size) undef) [] cs:=
   ⟨agq ap b1,.nil,rfl,fun _=>rfl,(fun l q=>by cases q),hZ,fn,aA⟩
  cases aq:E.code c ⟨T,fn.ntmps,[],bG,bd,none⟩ H with
  |none=>rw[aq] at he;cases he
  |some p=>
   obtain⟨x,a0,H1⟩:=p;rw[aq] at he;have aD:=yo c _ H x a0 H1 aq μ w ku _ [] cs [] (.code c) h b3 (.inl rfl);rw[<-kg] at aD;have cx:ku.roundOf=none:=rfl
   --sA frame leaves
   have fin:∀(u u1:FrameMode) (e2:bL) (bt:World) (t1:Array Value) (d1:List Deferred) (gj:List Frame) (aU:List Item),Reached P B w0 μ H ⟨T,fn.ntmps,[],bG,bd,none⟩ ku cs a0 H1 e2 bt t1 d1 gj->oY e2 u u1->u≠.run->
    Steps P (lone ku cs w) (lone {bH ku t1 d1 aU with mode:=u1} gj bt)->pT a0.bd (g8 P E fn a0.T a0.ds u H1)=some (e,gv,H')->
    ∃bf a5 bC m9 cy,bX P B w0 bf H' a5/\Step μ bf H H'/\zi bf e bC/\Steps P (lone ku cs w) (lone m9 cy a5)/\
     m9.kind=(if bG then .deferred else .normal)/\m9.fn=f/\m9.going P a5 bC/\jz bG cs cy/\(bG=true->∃bp rest,cy=bp::rest/\oY bf gv bp.mode):=by
    intro u u1 e2 bt t1 d1 gj aU lr hm hu dn r1;cases q9:g8 P E fn a0.T a0.ds u H1 with
    |none=>rw[q9] at r1;cases r1
    |some q=>
     obtain⟨aR,bK⟩:=q;rw[q9] at r1;have r1:some (aR,a0.bd,bK)=some (e,gv,H'):=r1;simp only[cl,dm] at r1;obtain⟨rfl,rfl,rfl⟩:=r1;obtain⟨jj,cv,bC,zY,bY,bZ,cz,fu,fM,gN,gp⟩:=afQ z' a0.ds u H1 aR bK q9 e2 bt {bH ku t1 d1 aU with mode:=u1} gj lr.h lr.f.t lr.f.d hm hu aA;refine⟨jj,cv,bC,zY,gj,bY,lr.iC.trans bZ,cz,dn.trans fu,fM,gN,gp,lr.c,fun al=>?_⟩;obtain⟨bp,rest,a,b⟩:=lr.f.bd (lr.bG.trans al);exact⟨bp,rest,a,b.mono bZ.ext⟩
   cases x with
   |normal=>
    obtain⟨e2,bt,t1,d1,gj,lr,dn⟩:=aD;exact fin .returning .returning e2 bt t1 d1 gj [] lr trivial (fun q=>by cases q) (dn.trans (.one (apo cx))) he
   |ret=>
    obtain⟨e2,bt,t1,d1,gj,aU,lr,dn⟩:=aD;exact fin .returning .returning e2 bt t1 d1 gj (.code .ret::aU) lr trivial (fun q=>by cases q) (dn.trans (.one (apC cx))) he
   |panic bk=>
    obtain⟨e2,bt,t1,d1,gj,vW,aU,lr,Fy,dn⟩:=aD;exact fin (.panicking bk) (.panicking vW) e2 bt t1 d1 gj aU lr Fy (fun q=>by cases q) dn he
   |exit id=>cases he
   |goto l=>cases he
   |outgrown=>cases he
structure sT (P:Program) (e5:aW Func):Prop where
 qi:P.follows .mixedOrders=true
 e5:∀f fn,e5.get f=some fn->P.funcs[f]?=some fn
 num:∀(f:Nat) fn,P.funcs[f]?=some fn->fn.body.isSome=true->(fn.name== "runtime.NumGoroutine")=false
theorem EY{f:FuncId}{fn:Func}{c:Code}(aA:P.funcs[f]?=some fn)(ai:fn.body=some c)(az:(fn.name== "runtime.NumGoroutine")=false)(args:Array Value)(w:World):(callFunc f args).run P w=.ok (.enter f args) w:=by
 have wN:¬fn.name= "runtime.NumGoroutine":=by simpa using az
 simp[callFunc,program,Sem.run,aA,ai,wN]
theorem Ux{e5:aW Func}(cw:sT P e5){E:fv}(yo:rB P B w0 E.code)(z':ud P B w0 E.body):ud P B w0 (rS P e5 E):=by
 intro f args bd H e gv H' he μ w bP h ap;unfold rS at he;cases p3:e5.get f with
 |none=>rw[p3] at he;cases he
 |some fn=>
  rw[p3] at he;have aA:=cw.e5 f fn p3;cases ai:fn.body with
  |none=>simp only[ai] at he;cases he
  |some c=>
   simp only[ai] at he;refine⟨EY aA ai (cw.num f fn aA (by rw[ai];rfl)) _ w,fun vT cs hm=>?_⟩;obtain⟨bf,a5,bC,m9,cy,bY,bZ,cz,fu,fM,gN,gp,ov,UQ⟩:=TN yo z' aA ai he h ap (vT::cs) (fun _=>⟨vT,cs,rfl,hm⟩);obtain⟨bp,rest,m,aK,aH⟩:=ov;injection aK with aK bJ;subst aK;subst bJ
   obtain⟨bN,auH,cX,cW⟩:=UQ rfl;rw[aH] at cX;injection cX with cX eR;subst cX;subst eR
   subst aH;exact⟨bf,a5,bC,m,m9,bY,bZ,cz,cW,fu,fM,gp⟩
theorem Nv{e5:aW Func}(cw:sT P e5){E:fv}(yo:rB P B w0 E.code)(z':ud P B w0 E.body):oQ P B w0 (fv.call ⟨E.code,rS P e5 E⟩):=by
 intro f args H e H' he μ w bP h ap;unfold fv.call at he;cases fZ:rS P e5 E f args false .run H with
 |none=>simp only[fZ] at he;cases he
 |some p=>
  obtain⟨aw,RS,H1⟩:=p;simp only[fZ,cl,dm] at he;obtain⟨rfl,rfl⟩:=he;unfold rS at fZ;cases p3:e5.get f with
  |none=>rw[p3] at fZ;cases fZ
  |some fn=>
   rw[p3] at fZ;have aA:=cw.e5 f fn p3;cases ai:fn.body with
   |none=>
    simp only[ai] at fZ;have fZ:pT .run (zT P fn f args H)=some (aw,RS,H1):=fZ;cases U:zT P fn f args H with
    |none=>rw[U] at fZ;cases fZ
    |some q=>
     obtain⟨aR,bK⟩:=q;rw[U] at fZ;have fZ:some (aR,FrameMode.run,bK)=some (aw,RS,H1):=fZ;simp only[cl,dm] at fZ;obtain⟨rfl,rfl,rfl⟩:=fZ;exact .inl (afM aA ai h ap U)
   |some c=>
    simp only[ai] at fZ;refine .inr ⟨EY aA ai (cw.num f fn aA (by rw[ai];rfl)) _ w,fun cs=>?_⟩;obtain⟨bf,a5,bC,m9,cy,bY,bZ,cz,fu,fM,gN,gp,ov,UQ⟩:=TN yo z' aA ai fZ h ap cs (fun q=>by cases q);have hZ:cy=cs:=ov;subst hZ;refine⟨bC,a5,m9,⟨bf,bY,bZ,cz⟩,?_,gN,?_⟩
    ·cases bC with
     |returned v=>exact fu
     |panicked bk=>exact fu
     |outgrown=>cases aw<;>exact cz.elim
    ·cases bC with
     |returned v=>obtain⟨a,b,c⟩:=gp;exact⟨a,b,fM,c⟩
     |panicked bk=>exact gp
     |outgrown=>trivial
end
end
end Go.Cre
namespace Go.Cre
noncomputable section
open Go.RowKit
section
variable {P:Program}{B:Nat->Prop}{w0 w a5:World}{μ e2 bf:bL}{H H1 H':an}{S a0 aC:aV}{fr:Frame}{tmps:Array Value}{ds:List Deferred}{cs gj:List Frame}{k:List Item}
theorem anL{n:Nat}:∀{ps:List Tmp} {args bP:List Value} {T dD:aW Value} {tmps:Array Value},tM T ps args=some dD->bT μ args bP->jU μ T n tmps->uw n ps=true->
 ps.length=bP.length/\jU μ dD n ((ps.zip bP).foldl (fun tmps (x:Tmp×Value)=>tmps.setIfInBounds x.1 x.2) tmps):=by
 intro ps;induction ps with
 |nil=>
  intro args bP T dD tmps he ap aJ _;cases args with
  |nil=>
   obtain rfl:=ap.kz;simp[tM] at he;subst he;exact⟨rfl,aJ⟩
  |cons=>simp[tM] at he
 |cons t ps aP=>
  intro args bP T dD tmps he ap aJ ai;cases args with
  |nil=>simp[tM] at he
  |cons v args=>
   obtain⟨v',l',rfl,ab,ad⟩:=ap.iZ;simp only[tM] at he;simp only[uw,gg] at ai;have b9:t<n:=hv ai.1;cases hs:aW.set DL T t v with
   |none=>rw[hs] at he;cases he
   |some pR=>
    rw[hs] at he;have pf:jU μ pR n (tmps.setIfInBounds t v'):=by
     refine⟨by simpa using aJ.1,fun x u q=>?_⟩;rw[aW.NS hs] at q;by_cases U:x=t
     ·subst U;rw[a2 rfl] at q;injection q with q;subst q
      have:(tmps.setIfInBounds x v').getD x undef=v':=by
       have:x<tmps.size:=hA b9 aJ.1;simp[this]
      rw[this];exact ab
     ·rw[aZ U] at q;have:(tmps.setIfInBounds t v').getD x undef=tmps.getD x undef:=by
       simp[Sq (Ne.symm U)]
      rw[this];exact aJ.2 x u q
    obtain⟨a,b⟩:=aP he ad pf ai.2;exact⟨by simp[a],b⟩
theorem apu{l:Nat}{v:Value}{c:Frame}(aq:fr.roundOf=some l)(hk:fr.kind=.normal)(gG:(Instr.endRound l none).run P w=.ok v a5):
 step P (lone (bH fr tmps ds []) (c::cs) w)=.next (lone (c.finish v) cs a5):=step_lone_go (by simp[stepG,stepG.exec,bH,aq,gG,doReturn,hk])
theorem apw{l:Nat}{v:Value}{c:Frame}(aq:fr.roundOf=some l)(hk:fr.kind=.normal)(gG:(Instr.endRound l (some .ret)).run P w=.ok v a5):
 step P (lone (bH fr tmps ds (.code .ret::k)) (c::cs) w)=.next (lone (c.finish v) cs a5):=step_lone_go (by simp[stepG,stepG.exec,bH,aq,gG,doReturn,hk])
theorem apv{l id:Nat}{v:Value}{c:Frame}(aq:fr.roundOf=some l)(hk:fr.kind=.normal)(he:exitTo id k=none)(gG:(Instr.endRound l (some (.exit id))).run P w=.ok v a5):
 step P (lone (bH fr tmps ds (.code (.exit id)::k)) (c::cs) w)=.next (lone (c.finish v) cs a5):=step_lone_go (by simp[stepG,stepG.exec,bH,aq,he,gG,doReturn,hk])
theorem apk{l:Nat}(aq:fr.roundOf=some l)(gG:(Instr.beginRound l).run P w=.ok () a5):
 step P (lone (bH fr tmps ds (.beginRound::k)) cs w)=.next (lone (bH fr tmps ds k) cs a5):=step_lone_go (by simp[stepG,stepG.exec,stepG.apply,bH,aq,gG,Frame.finish])
theorem Gx(h:bX P B w0 μ H w){l:Nat}{L:Loc}{r:oP}(a4:μ l=some L)(hm:H.mem.get l=some (.loop r)):
 ∃ch,w.heap[L.r]?=some (.loop ch)/\jx P μ L (.loop r) (.loop ch):=by
 obtain⟨b,o,aK,aH,bJ⟩:=h.fS l L a4;rw[hm] at aK;injection aK with aK;subst aK
 cases o with
 |loop ch=>exact⟨ch,aH,bJ⟩
 |_=>exact bJ.elim
theorem R9(h:bX P B w0 μ H w){l:Nat}{L:Loc}{r cX:oP}{vn:Loop}(a4:μ l=some L)(ax:H.bz<=l)(hm:H.mem.get l=some (.loop r))(hu:H.upd l (.loop cX)=some H')(ai:jx P μ L (.loop cX) (.loop vn)):
 bX P B w0 μ H' {w with heap:=w.heap.setIfInBounds L.r (.loop vn)}/\Step μ μ H H':=
 h.aaX a4 ax hm (fun _ _ _ _ _ _ q=>by cases q) (fun q=>by cases q) hu (fun _ _ _ _ _ _ q=>by cases q) ai
theorem LG{E:fv}(yo:rB P B w0 E.code):vN P B w0 E.aE:=by
 intro l args H e H' he μ w L bP h a4 ap;unfold fv.aE at he;cases hm:H.mem.get l with
 |none=>rw[hm] at he;cases he
 |some b=>
  rw[hm] at he;cases b with
  |loop r=>
   simp only at he;cases aD:(Nat.ble H.bz l&&uw r.n r.params) with
   |false=>rw[aD] at he;cases he
   |true=>
    rw[aD,b4] at he;simp only[gg] at aD;have ax:=hv aD.1;obtain⟨ch,h1,jK⟩:=Gx h a4 hm;obtain⟨bs,bM,cB,ep,fw,fi,bR,jV,jm,gy⟩:=jK;cases ao:tM r.T r.params args with
    |none=>rw[ao] at he;cases he
    |some T=>
     rw[ao] at he;have he:Sh E l r.body (E.code r.assign ⟨T,r.n,[],false,.run,some l⟩ H)=some (e,H'):=he;obtain⟨hlen,b1⟩:=anL ao ap fi aD.2;cases aF:E.code r.assign ⟨T,r.n,[],false,.run,some l⟩ H with
     |none=>rw[aF] at he;cases he
     |some p=>
      obtain⟨en,a0,H1⟩:=p;rw[aF] at he;cases en with
      |normal=>
       have he:HP E l r.body a0 H1=some (e,H'):=he;unfold HP at he;cases p5:H1.mem.get l with
       |none=>rw[p5] at he;cases he
       |some b=>
        rw[p5] at he;cases b with
        |loop cX=>
         simp only at he;cases dn:cX.state with
         |ready=>
          simp only[dn] at he;cases hu:H1.upd l (.loop {cX with state:=.busy}) with
          |none=>rw[hu] at he;cases he
          |some bK=>
           rw[hu] at he;have he:LF l (E.code r.body a0 bK)=some (e,H'):=he;cases ai:E.code r.body a0 bK with
           |none=>rw[ai] at he;cases he
           |some p=>
            obtain⟨fR,o2,eX⟩:=p;rw[ai] at he;have he:(match C' fR with|some j=>Bv eX l j|none=>HQ eX fR o2.ds)=some (e,H'):=he
            let oM:Array Value:=(ch.params.zip bP.toArray).foldl (fun tmps (x:Tmp×Value)=>tmps.setIfInBounds x.1 x.2) ch.tmps
            have ajM:jU μ T r.n oM:=by
             have aw:oM=(r.params.zip bP).foldl (fun tmps (x:Tmp×Value)=>tmps.setIfInBounds x.1 x.2) ch.tmps:=by
              show(ch.params.zip bP.toArray).foldl _ _=_;rw[<-Array.foldl_toList,Array.toList_zip,cB]
             rw[aw];exact b1
            refine⟨ch.fn,oM,ch.assign,ch.body,?_,?_⟩
            ·have dF:bP.toArray.size=ch.params.size:=by
              have:ch.params.size=ch.params.toList.length:=by simp
              rw[this,cB];simpa using hlen.symm
             have J0:bP.length=ch.params.size:=by simpa using dF
             simp[Instr.yield,Instr.getLoop,getObj,Sem.run,h1,J0,oM]
            ·intro caller cs
             let ku:Frame:=Frame.round L.r ch.fn oM ch.assign ch.body .normal
             have kg:ku=bH ku oM [] [.code ch.assign,.beginRound,.code ch.body]:=rfl
             have b3:hJ P μ ⟨T,r.n,[],false,.run,some l⟩ ku oM [] (caller::cs):=
              ⟨ajM,.nil,rfl,(fun q=>by cases q),(fun l' q=>by injection q with q;subst q;exact⟨L,a4,rfl⟩),(fun q=>by cases q),gy⟩
             have bp:=yo r.assign _ H .normal a0 H1 aF μ w ku oM [] (caller::cs) [.beginRound,.code ch.body] (.code r.assign) h b3 (.inl rfl);rw[<-ep,<-kg] at bp;obtain⟨e2,bt,t1,d1,gj,iJ,s1⟩:=bp;have JG:gj=caller::cs:=iJ.c;subst JG;have yl:e2 l=some L:=iJ.iC.ext _ _ a4;obtain⟨vn,Pp,ajm⟩:=Gx iJ.h yl p5;obtain⟨jh,kD,nx,Bu,HO,Se,Sf⟩:=ajm;have nh:H1.bz<=l:=by rw[iJ.iC.bz];exact ax
             obtain⟨aca,Mo⟩:=R9 (vn:={vn with state:=.busy}) iJ.h yl nh p5 hu ⟨rfl,kD,nx,Bu,HO,Se,Sf⟩;have s2:step P (lone (bH ku t1 d1 [.beginRound,.code ch.body]) (caller::cs) bt)=.next (lone (bH ku t1 d1 [.code ch.body]) (caller::cs) {bt with heap:=bt.heap.setIfInBounds L.r (.loop {vn with state:=.busy})}):=by
              refine apk rfl ?_;have:vn.state=.ready:=jh.trans dn;simp[Instr.beginRound,Instr.getLoop,getObj,setObj,Sem.run,Pp,this]
             have cN:=yo r.body a0 bK fR o2 eX ai e2 _ ku t1 d1 (caller::cs) [] (.code r.body) aca iJ.f (.inl rfl);rw[<-fw] at cN;have wu:a0.bG=false:=iJ.bG;cases aY:C' fR with
             |none=>
              rw[aY] at he;have he:HQ eX fR o2.ds=some (e,H'):=he;cases fR with
              |panic bk=>
               cases q5:o2.ds with
               |cons d l=>rw[q5] at he;cases he
               |nil=>
                rw[q5] at he;have he:some (Ending.panicked bk,eX)=some (e,H'):=he;simp only[cl,dm] at he;obtain⟨rfl,rfl⟩:=he;obtain⟨ny,eO,t3,d3,rQ,vW,bj,m1,Fy,fQ⟩:=cN;have Oz:rQ=caller::cs:=by have:=m1.c;rw[wu] at this;exact this
                subst Oz;have CA:d3=[]:=by have:=m1.f.d;rw[q5] at this;cases this;rfl
                subst CA;exact⟨.panicked vW,eO,ny,m1.h,(iJ.iC.trans Mo).trans m1.iC,Fy,(s1.trans (.head s2 fQ)).trans (.one (step_leave_panicked ⟨rfl,rfl,m1.f.fn⟩))⟩
              |normal=>cases aY
              |ret=>cases aY
              |exit id=>cases aY
              |goto l=>cases he
              |outgrown=>cases he
             |some j=>
             rw[aY] at he;have he:Bv eX l j=some (e,H'):=he;unfold Bv at he;cases wK:eX.mem.get l with
             |none=>rw[wK] at he;cases he
             |some b=>
              rw[wK] at he;cases b with
              |loop eR=>
               simp only at he;cases PE:eX.upd l (.loop {eR with state:=if j.isNone then .ready else .done,pending:=j}) with
               |none=>rw[PE] at he;cases he
               |some jS=>
                rw[PE] at he;have he:some (Ending.returned (.bool j.isNone),jS)=some (e,H'):=he;simp only[cl,dm] at he;obtain⟨rfl,rfl⟩:=he
                --sA round ends
                have fin:∀(ny:bL) (eO:World) (t3:Array Value) (d3:List Deferred) (rQ:List Frame) (todo:List Item),Reached P B w0 e2 bK a0 ku (caller::cs) o2 eX ny eO t3 d3 rQ->
                 (∀v tY,(Instr.endRound L.r j).run P eO=.ok v tY->step P (lone (bH ku t3 d3 todo) (caller::cs) eO)=.next (lone (caller.finish v) cs tY))->
                 Steps P (lone (bH ku t1 d1 [.code ch.body]) (caller::cs) {bt with heap:=bt.heap.setIfInBounds L.r (.loop {vn with state:=.busy})}) (lone (bH ku t3 d3 todo) rQ eO)->
                 ∃bC a5 bf,bX P B w0 bf jS a5/\Step μ bf H jS/\zi bf (.returned (.bool j.isNone)) bC/\Steps P (lone ku (caller::cs) w) (lone (aa2 caller bC) cs a5):=by
                 intro ny eO t3 d3 rQ todo m1 bb fQ;have Oz:rQ=caller::cs:=by have:=m1.c;rw[wu] at this;exact this
                 subst Oz;have Fl:ny l=some L:=m1.iC.ext _ _ yl;obtain⟨DE,Pq,Pr⟩:=Gx m1.h Fl wK;obtain⟨dI,dB,ub,HR,LH,HS,HT⟩:=Pr;have ON:eX.bz<=l:=by rw[m1.iC.bz,Mo.bz];exact nh
                 obtain⟨uv,Mn⟩:=R9 (vn:={DE with state:=if j.isNone then .ready else .done,pending:=j}) m1.h Fl ON wK PE ⟨rfl,rfl,ub,HR,LH,HS,HT⟩;refine⟨.returned (.bool j.isNone),_,ny,uv,((iJ.iC.trans Mo).trans m1.iC).trans Mn,bg.atom _ rfl,?_⟩;refine(s1.trans (.head s2 fQ)).trans (.one (bb _ _ ?_));simp[Instr.endRound,Instr.getLoop,getObj,setObj,Sem.run,Pq]
                cases fR with
                |normal=>
                 injection aY with aY;subst aY
                 obtain⟨ny,eO,t3,d3,rQ,m1,fQ⟩:=cN;exact fin ny eO t3 d3 rQ [] m1 (fun v tY q=>apu rfl rfl q) fQ
                |ret=>
                 injection aY with aY;subst aY
                 obtain⟨ny,eO,t3,d3,rQ,bj,m1,fQ⟩:=cN;exact fin ny eO t3 d3 rQ _ m1 (fun v tY q=>apw rfl rfl q) fQ
                |exit id=>
                 injection aY with aY;subst aY
                 obtain⟨ny,eO,t3,d3,rQ,bj,m1,ex,fQ⟩:=cN;exact fin ny eO t3 d3 rQ _ m1 (fun v tY q=>apv rfl rfl (ex.trans rfl) q) fQ
                |goto l=>cases aY
                |panic c=>cases aY
                |outgrown=>cases aY
              |_=>cases he
         |done=>simp only[dn] at he;cases he
         |busy=>simp only[dn] at he;cases he
         |exhausted=>simp only[dn] at he;cases he
        |_=>cases he
      |_=>cases he
  |_=>cases he
end
end
end Go.Cre
namespace Go.Cre
noncomputable section
open Go.RowKit
section
variable {P:Program}{B:Nat->Prop}{w0 w a5:World}{μ e2 bf:bL}{H H1 H':an}{S a0 aC:aV}{fr:Frame}{tmps:Array Value}{ds:List Deferred}{cs gj:List Frame}{k:List Item}
theorem Y'{f:Operand}{l:Nat}{fn:Fn}{a b:Array Value}(ar:cU tmps f=.func fn a b):
 resolve (cU tmps) {callee:=.value f,args:=#[.const (.func (.yield l) #[] #[])],argTypes:=#[]} 0=pure {target:=.fn fn b,args:=a.push (.func (.yield l) #[] #[])}:=by
 have e:#[Operand.const (.func (.yield l) #[] #[])].map (cU tmps)=#[.func (.yield l) #[] #[]]:=by simp[cU]
 simp only[resolve,e,ar,Deferred.ofValue];simp
theorem apz{f:Operand}{params:Array Tmp}{assign body:Code}{l:Nat}{mark:List Deferred}{bt cv:World}{fn:Fn}{a b args:Array Value}{g:FuncId}
 (aq:(Instr.enterLoop fr.fn tmps params assign body fr.roundOf).run P w=.ok (l,mark) bt)(ar:cU tmps f=.func fn a b)(ak:(invoke (.fn fn b) (a.push (.func (.yield l) #[] #[]))).run P bt=.ok (.enter g args) cv):
 step P (lone (bH fr tmps ds (.code (.rangeFunc f params assign body)::k)) cs w)=.next (lone (Frame.enter P g args .normal) (bH fr tmps (mark++ds) (.inRangeFunc l::k)::cs) cv):=by
 have he:=I9 (fr:=fr) (tmps:=tmps) (ds:=mark++ds) (.inRangeFunc l::k);simp only[bH] at he;refine step_lone_go ?_;simp only[stepG,stepG.exec,bH,Sem.runT_eq,aq,GStep.bare_after,he,Y' ar,pure_bind];simp[stepG.apply,ak]
theorem apA{f:Operand}{params:Array Tmp}{assign body:Code}{l:Nat}{mark:List Deferred}{bt cv:World}{fn:Fn}{a b:Array Value}{v:Value}
 (aq:(Instr.enterLoop fr.fn tmps params assign body fr.roundOf).run P w=.ok (l,mark) bt)(ar:cU tmps f=.func fn a b)(ak:(invoke (.fn fn b) (a.push (.func (.yield l) #[] #[]))).run P bt=.ok (.value v) cv):
 step P (lone (bH fr tmps ds (.code (.rangeFunc f params assign body)::k)) cs w)=.next (lone (bH fr tmps (mark++ds) (.endRangeFunc l::k)) cs cv):=by
 have he:=I9 (fr:=fr) (tmps:=tmps) (ds:=mark++ds) (.inRangeFunc l::k);simp only[bH] at he;refine step_lone_go ?_;simp only[stepG,stepG.exec,bH,Sem.runT_eq,aq,GStep.bare_after,he,Y' ar,pure_bind];simp[stepG.apply,ak,Frame.finish]
theorem apy{l:Nat}{jump:Option Code}(aq:(Instr.endLoop l).run P w=.ok jump a5):
 step P (lone (bH fr tmps ds (.endRangeFunc l::k)) cs w)=.next (lone (bH fr tmps ds ((jump.map Item.code).toList++k)) cs a5):=
 step_lone_go (by simp[stepG,stepG.exec,bH,aq])
theorem an8(h:bX P B w0 μ H w)(aA:hJ P μ S fr tmps ds cs){d:Nat}{fx:List Deferred}(he:Hl S H=some (d,fx,H1)){params:Array Tmp}{assign body:Code}{l:Nat}{bK:an}
 (az:H1.new (.loop {state:=.ready,pending:=none,T:=S.T,n:=S.n,params:=params.toList,assign:=assign,body:=body,gk:=d})=some (l,bK)):
 ∃jj cv mark L,(Instr.enterLoop fr.fn tmps params assign body fr.roundOf).run P w=.ok (L.r,mark) cv/\bX P B w0 jj bK cv/\Step μ jj H bK/\jj l=some L/\sI jj fx (mark++ds)/\bK.bz<=l:=by
 --sA loop atP,from sA block for sA deferred calls on
 have fin:∀(e2:bL) (bt:World) (mark:List Deferred) (ht:Loc),bX P B w0 e2 H1 bt->Step μ e2 H H1->e2 d=some ht->sI e2 fx (mark++ds)->
  (Instr.enterLoop fr.fn tmps params assign body fr.roundOf).run P w=.ok (bt.heap.size,mark) (bt.alloc (.loop {state:=.ready,pending:=none,fn:=fr.fn,tmps:=tmps,params:=params,assign:=assign,body:=body,defers:=ht.r}))->
  ∃jj cv mark L,(Instr.enterLoop fr.fn tmps params assign body fr.roundOf).run P w=.ok (L.r,mark) cv/\bX P B w0 jj bK cv/\Step μ jj H bK/\jj l=some L/\sI jj fx (mark++ds)/\bK.bz<=l:=by
  intro e2 bt mark ht ab s1 al cK gG;have kf:=ab.uK ⟨bt.heap.size,0,0⟩
  obtain⟨cL,eA,ap⟩:=ab.made (o:=.loop {state:=.ready,pending:=none,fn:=fr.fn,tmps:=tmps,params:=params,assign:=assign,body:=body,defers:=ht.r}) (L:=⟨bt.heap.size,0,0⟩) az rfl rfl
   ⟨rfl,rfl,rfl,rfl,rfl,(aA.t.mono s1.ext).mono kf,ht,kf _ _ al,rfl,aA.fn⟩
  subst ap;refine⟨_,_,mark,⟨bt.heap.size,0,0⟩,gG,cL,s1.trans eA,bL.jP _ _ _,cK.mono kf,?_⟩;rw[eA.bz];exact ab.kc
 unfold Hl at he;cases p8:S.cc with
 |some l0=>
  rw[p8] at he;simp only at he;cases hm:H.mem.get l0 with
  |none=>rw[hm] at he;cases he
  |some b=>
   rw[hm] at he;cases b with
   |loop kB=>
    simp only[cl,dm] at he;obtain⟨rfl,rfl,rfl⟩:=he;obtain⟨ar1,yk,ajs⟩:=aA.y2 l0 p8;obtain⟨auE,h1,jK⟩:=Gx h yk hm;obtain⟨bs,bM,cB,ep,fw,fi,bR,jV,jm,gy⟩:=jK;refine fin μ w [] bR h (Step.refl _ _) jV aA.d ?_;rw[ajs];simp[Instr.enterLoop,Instr.getLoop,getObj,newObj,Sem.run,h1,jm]
   |_=>cases he
 |none=>
  rw[p8] at he;simp only at he;cases mh:H.new (.gk (some [])) with
  |none=>rw[mh] at he;cases he
  |some p=>
   obtain⟨r,pJ⟩:=p;rw[mh] at he;simp only[cl,dm] at he;obtain⟨rfl,rfl,rfl⟩:=he;obtain⟨cL,eA,ap⟩:=h.made (o:=.deferred (some [])) (L:=⟨w.heap.size,0,0⟩) mh rfl rfl ⟨rfl,.inl rfl⟩;subst ap;refine fin _ _ [{target:=.collected w.heap.size,args:=#[]}] ⟨w.heap.size,0,0⟩ cL eA (bL.jP _ _ _) (.cons _ _ _ _ (.inr ⟨H.ay,⟨w.heap.size,0,0⟩,rfl,bL.jP _ _ _,rfl⟩) (aA.d.mono eA.ext)) ?_;rw[aA.tR p8];simp[Instr.enterLoop,newObj,Sem.run]
theorem Y4{E:fv}(gR:oQ P B w0 E.call):Tm P B w0 E:=by
 intro f params assign body S H e aC H' he μ w fr tmps ds cs k h aA;unfold Ce at he;cases dn:Hl S H with
 |none=>rw[dn] at he;cases he
 |some p=>
  obtain⟨d,fx,H1⟩:=p;rw[dn] at he;simp only at he;cases az:H1.new (.loop {state:=.ready,pending:=none,T:=S.T,n:=S.n,params:=params.toList,assign:=assign,body:=body,gk:=d}) with
  |none=>rw[az] at he;cases he
  |some p=>
   obtain⟨l,bK⟩:=p;rw[az] at he;simp only at he;obtain⟨jj,cv,mark,L,aK,aH,bJ,dU,fP,je⟩:=an8 h aA dn az;have qZ:hJ P jj {S with ds:=fx} fr tmps (mark++ds) cs:=by
    have:=aA.mono bJ.ext;exact⟨this.t,fP,this.kind,this.tR,this.y2,this.bd,this.fn⟩
   have ar2:Reached P B w0 μ H S fr cs {S with ds:=fx} bK jj cv tmps (mark++ds) cs:=⟨aH,bJ,qZ,jz.refl _ _ aA.tj,rfl,rfl⟩;cases eg:a1 S.T bK f with
   |none=>rw[eg] at he;cases he
   |some kv=>
    rw[eg] at he;have kg:=tL aH qZ.t (T:=S.T) eg;cases kv with
    |func fn first captured=>
     have he:(match jG P bK fn (first.toList++[.func (.yield l) #[] #[]]) captured.toList with|none=>none|some (g,bV)=>K8 {S with ds:=fx} l (E.body g bV false .run bK))=some (e,aC,H'):=he
     cases gF:jG P bK fn (first.toList++[.func (.yield l) #[] #[]]) captured.toList with
     |none=>rw[gF] at he;cases he
     |some p=>
      obtain⟨g,bV⟩:=p;rw[gF] at he;simp only at he;rcases kg.Cm with⟨bO,b',ar,tu,ab,ad⟩|⟨l',bR,rfl,_,rfl,rfl,ar⟩
      ·have au:bT jj [Value.func (.yield l) #[] #[]] [Value.func (.yield L.r) #[] #[]]:=bT.cons (.yield l L dU) (bT.nil _);obtain⟨iu,a7,bc⟩:=Nz (w:=cv) (ab.append au) ad gF;have Tp:(invoke (.fn fn b') (bO.push (.func (.yield L.r) #[] #[]))).run P cv=(callFunc g iu.toArray).run P cv:=by
        rw[<-a7];have aw:(bO.toList++[Value.func (.yield L.r) #[] #[]]).toArray=bO.push (.func (.yield L.r) #[] #[]):=by apply qz;simp
        have aR:b'.toList.toArray=b':=by simp
        rw[aw,aR]
       cases ai:E.body g bV false .run bK with
       |none=>rw[ai] at he;cases he
       |some p=>
        obtain⟨x,bd,eX⟩:=p;rw[ai] at he;have aD:E.call g bV bK=some (x,eX):=by unfold fv.call;rw[ai]
        --sA at6 end
        have fin:∀(ny:bL) (eO:World) (v:Value),x=.returned v->bX P B w0 ny eX eO->Step jj ny bK eX->Steps P (lone (bH fr tmps ds (.code (.rangeFunc f params assign body)::k)) cs w) (lone (bH fr tmps (mark++ds) (.endRangeFunc L.r::k)) cs eO)->
         lE P B w0 μ H S fr cs (lone (bH fr tmps ds (.code (.rangeFunc f params assign body)::k)) cs w) k aC H' e:=by
         intro ny eO v U aL fQ hs;subst U;have he:Hk {S with ds:=fx} l eX=some (e,aC,H'):=he;unfold Hk at he;cases wK:eX.mem.get l with
         |none=>rw[wK] at he;cases he
         |some b=>
          rw[wK] at he;cases b with
          |loop eR=>
           have Fl:ny l=some L:=fQ.ext _ _ dU;obtain⟨DE,Pq,Pr⟩:=Gx aL Fl wK;obtain⟨dI,dB,ub,HR,LH,HS,HT⟩:=Pr;have ON:eX.bz<=l:=by rw[fQ.bz];exact je
           have yt:eR.state≠.busy/\∃jS,eX.upd l (.loop {eR with state:=.exhausted})=some jS/\Rf {S with ds:=fx} eR.pending jS=some (e,aC,H'):=by
            simp only at he;cases hs:eR.state with
            |busy=>simp only[hs] at he;cases he
            |_=>
             simp only[hs] at he;cases hu:eX.upd l (.loop {eR with state:=.exhausted}) with
             |none=>rw[hu] at he;cases he
             |some jS=>rw[hu] at he;exact⟨(fun q=>by cases q),jS,rfl,he⟩
           obtain⟨yt,jS,hu,he⟩:=yt;obtain⟨uv,Mn⟩:=R9 (vn:={DE with state:=.exhausted}) aL Fl ON wK hu ⟨rfl,dB,ub,HR,LH,HS,HT⟩;have r1:(Instr.endLoop L.r).run P eO=.ok eR.pending {eO with heap:=eO.heap.setIfInBounds L.r (.loop {DE with state:=.exhausted})}:=by
            have iP:¬DE.state=.busy:=by rw[dI];exact yt
            simp[Instr.endLoop,Instr.getLoop,getObj,setObj,Sem.run,Pq,iP,dB]
           have r7:=hs.trans (.one (apy r1))
           have Mj:Reached P B w0 μ H S fr cs {S with ds:=fx} jS ny {eO with heap:=eO.heap.setIfInBounds L.r (.loop {DE with state:=.exhausted})} tmps (mark++ds) cs:=
            ⟨uv,(bJ.trans fQ).trans Mn,qZ.mono fQ.ext,jz.refl _ _ aA.tj,rfl,rfl⟩
           cases Wc:eR.pending with
           |none=>
            rw[Wc] at he r7;have he:some (Exit.normal,{S with ds:=fx},jS)=some (e,aC,H'):=he;simp only[cl,dm] at he;obtain⟨rfl,rfl,rfl⟩:=he;exact⟨_,_,_,_,_,Mj,r7⟩
           |some c=>
            rw[Wc] at he r7;cases c with
            |ret=>
             have he:some (Exit.ret,{S with ds:=fx},jS)=some (e,aC,H'):=he;simp only[cl,dm] at he;obtain⟨rfl,rfl,rfl⟩:=he;exact⟨_,_,_,_,_,k,Mj,r7⟩
            |exit id=>
             have he:some (Exit.exit id,{S with ds:=fx},jS)=some (e,aC,H'):=he;simp only[cl,dm] at he;obtain⟨rfl,rfl,rfl⟩:=he;exact⟨_,_,_,_,_,k,Mj,rfl,r7⟩
            |_=>cases he
          |_=>cases he
        rcases gR g bV bK x eX aD jj cv iu aH bc with⟨v0,v',a5,bf,aw,aR,cf,dK,cr⟩|⟨aw,aR⟩
        ·exact fin bf a5 v0 aw cf dK (.one (apA aK ar (Tp.trans aR)))
        ·obtain⟨bC,a5,UN,⟨bf,bY,bZ,cz⟩,Cy,_,CI⟩:=aR (bH fr tmps (mark++ds) (.inRangeFunc L.r::k)::cs);have VE:=apz (cs:=cs) (k:=k) (ds:=ds) aK ar (Tp.trans aw);cases bC with
         |returned v'=>
          cases x with
          |returned v=>
           refine fin bf a5 v rfl bY bZ ?_;have:=step_leave_returned (cs:=cs) (c:=bH fr tmps (mark++ds) (.inRangeFunc L.r::k)) CI;exact .head VE (Steps.trans Cy (.one this))
          |panicked c=>exact cz.elim
          |outgrown=>exact cz.elim
         |panicked c'=>
          cases x with
          |returned v=>exact cz.elim
          |outgrown=>exact cz.elim
          |panicked c=>
           have he:some (Exit.panic c,{S with ds:=fx},eX)=some (e,aC,H'):=he;simp only[cl,dm] at he;obtain⟨rfl,rfl,rfl⟩:=he;have ajn:=step_leave_panicked (cs:=cs) (c:=bH fr tmps (mark++ds) (.inRangeFunc L.r::k)) CI;refine⟨bf,a5,tmps,mark++ds,cs,c',.inRangeFunc L.r::k,⟨bY,bJ.trans bZ,qZ.mono bZ.ext,jz.refl _ _ aA.tj,rfl,rfl⟩,cz,?_⟩;exact .head VE (Steps.trans Cy (.one ajn))
         |outgrown=>cases x<;>exact cz.elim
      ·cases gF
    |_=>cases he
theorem af9{e5:aW Func}(cw:sT P e5):∀n,∀(B:Nat->Prop) (w0:World),rB P B w0 (uJ P e5 n).code/\ud P B w0 (uJ P e5 n).body/\oQ P B w0 (uJ P e5 n).call:=by
 intro n;induction n with
 |zero=>
  intro B w0;exact⟨(fun c S H e aC H' he=>by cases he),(fun f args bd H e gv H' he=>by cases he),(fun f args H e H' he=>by cases he)⟩
 |succ n aP=>
  intro B w0;obtain⟨ab,ad,aL⟩:=aP B w0;exact⟨UA cw.qi ab (fun hV ie _ _=>(aP hV ie).2.2) (fun hV ie _ _=>LG (aP hV ie).1) (Y4 aL),Ux cw ab ad,Nv cw ab ad⟩
theorem af8{e5:aW Func}(cw:sT P e5)(n:Nat):rB P B w0 (uJ P e5 n).code/\ud P B w0 (uJ P e5 n).body/\oQ P B w0 (uJ P e5 n).call:=af9 cw n B w0
end
end
end Go.Cre
namespace Go.Cre
noncomputable section
open Go.RowKit
section
variable {P:Program}{w:World}{H:an}
structure Laid (P:Program) (w:World) (H:an):Prop where
 bw:H.bw=.leaf
 ay:H.ay=H.bz
 rows:∀g b,H.mem.get g=some b->b=.dead\/∃cells e f,b=.row cells e false 0 s' true/\g<H.bz/\w.heap[g]?=some (.cells cells.toArray e f)/\cells.all plain=true/\cells.length<=s'
def E7 (P:Program)(H:an):bL:=fun g=>match H.mem.get g with
 |some (.row cells e _ _ _ _)=>some ⟨g,cells.length,P.cellsOf e⟩
 |_=>none
theorem agl(h:Laid P w H):bX P (fun k=>k<w.heap.size) w (E7 P H) H w:=by
 have inv:∀g L,E7 P H g=some L->∃cells e f,H.mem.get g=some (.row cells e false 0 s' true)/\L=⟨g,cells.length,P.cellsOf e⟩/\g<H.bz/\w.heap[g]?=some (.cells cells.toArray e f)/\cells.all plain=true/\cells.length<=s':=by
  intro g L q;unfold E7 at q;cases hm:H.mem.get g with
  |none=>rw[hm] at q;cases q
  |some b=>
   rw[hm] at q;rcases h.rows g b hm with rfl|⟨cells,e,f,rfl,a7,bc,cu,c9⟩
   ·cases q
   ·injection q with q;subst q
    exact⟨cells,e,f,rfl,rfl,a7,bc,cu,c9⟩
 refine⟨Kept.refl _ _,fun _ hk=>hk,?_,?_,?_,?_,?_,?_,by rw[h.ay];exact bF _,?_,?_,?_⟩
 ·intro g L q;obtain⟨cells,e,f,a7,rfl,cu,c9,cI,ee⟩:=inv g L q;refine⟨_,_,a7,c9,rfl,by simp,rfl,bF _,fun _=>rfl,fun i v v' x y=>?_,⟨fun off ah _ _=>hA ah ee,fun q=>by cases q⟩⟩;have:v=v':=by
   rw[abx] at y;rw[x] at y;injection y
  subst this;exact py (rF.1 cI v (gh x))
 ·intro x y ht hz ew U au aq;obtain⟨_,_,_,_,rfl,_⟩:=inv x ht U;obtain⟨_,_,_,_,rfl,_⟩:=inv y hz au;exact absurd aq ew
 ·intro x L U;obtain⟨_,_,_,_,_,a,_⟩:=inv x L U;rw[h.ay];exact a
 ·intro x L U _;obtain⟨_,_,_,_,rfl,_⟩:=inv x L U;rfl
 ·intro x L U ax _;obtain⟨_,_,_,_,_,a,_⟩:=inv x L U;omega
 ·intro g c e o f z s _ hm;exact⟨⟨g,c.length,P.cellsOf e⟩,by unfold E7;rw[hm]⟩
 ·intro x c e f z s hm;rcases h.rows x _ hm with q|⟨_,_,_,q,_⟩<;>cases q
 ·intro f l x ap;rw[h.bw] at ap;cases ap
 ·intro f l ap;rw[h.bw] at ap;cases ap
def isTrue (x:Option (Ending×FrameMode×an)):Bool:=match x with|some (.returned (.bool b),_,_)=>b|_=>false
theorem ad5{e5:aW Func}(cw:sT P e5){n:Nat}{f:FuncId}{fn:Func}{c:Code}(aA:P.funcs[f]?=some fn)(ai:fn.body=some c)(h:Laid P w H)(he:isTrue ((uJ P e5 n).body f [] false .run H)=true):
 Calls P f #[] w fun e a5=>e=.returned (.bool true)/\Below w.heap.size w a5:=by
 cases aq:(uJ P e5 n).body f [] false .run H with
 |none=>rw[aq] at he;cases he
 |some p=>
  obtain⟨e,bd,H'⟩:=p;rw[aq] at he;have aD:(uJ P e5 n).call f [] H=some (e,H'):=by unfold fv.call;rw[aq]
  have hs:=(af8 (B:=fun k=>k<w.heap.size) (w0:=w) cw n).2.2 f [] H e H' aD (E7 P H) w [] (agl h) (bT.nil _);rcases hs with⟨v,v',a5,bf,_,q,_⟩|⟨_,q⟩
  ·rw[EY aA ai (cw.num f fn aA (by rw[ai];rfl))] at q;cases q
  ·refine Calls.mono q fun bC a5 ⟨bf,bY,bZ,cz⟩=>?_;cases e with
   |returned v=>
    cases v with
    |bool b=>
     have he:b=true:=he;subst he;cases bC with
     |returned v'=>
      have ar:bg bf (.bool true) v':=cz;rw[ar.Ev];exact⟨rfl,bY.below.below⟩
     |panicked c=>exact cz.elim
     |outgrown=>exact cz.elim
    |_=>cases he
   |panicked c=>cases he
   |outgrown=>cases he
theorem RO{α:Type}:∀{l:List α} {i:Nat} {T dD:aW α},xz l i T=some dD->∀t,dD.get t=if i<=t/\t<i+l.length then l[t -i]? else T.get t:=by
 intro l;induction l with
 |nil=>intro i T dD h t;simp[xz] at h;subst h;rw[aZ (by rw[D7];omega)]
 |cons v l aP=>
  intro i T dD h t;simp only[xz] at h;cases hs:aW.set DL T i v with
  |none=>rw[hs] at h;cases h
  |some pR=>
   rw[hs] at h;rw[aP h t,aW.NS hs];by_cases ab:i+1<=t/\t<i+1+l.length
   ·rw[a2 ab,a2 (by rw[lc];omega)];have:t -i=(t -(i+1))+1:=by omega
    rw[this];rfl
   ·rw[aZ ab];by_cases ad:t=i
    ·subst ad;rw[a2 rfl,a2 (by simp)];simp
    ·rw[aZ ad,aZ (by rw[lc];omega)]
def Ck (P:Program):aW Func:=match xz P.funcs.toList 0 .leaf with|some t=>t|none=>.leaf
def QO (P:Program):Bool:=P.funcs.toList.all fun fn=>fn.body.isNone||!(fn.name== "runtime.NumGoroutine")
theorem YG(hm:P.follows .mixedOrders=true)(az:QO P=true):sT P (Ck P):=by
 refine⟨hm,fun f fn h=>?_,fun f fn aA ai=>?_⟩
 ·unfold Ck at h;cases aJ:xz P.funcs.toList 0 .leaf with
  |none=>rw[aJ] at h;cases h
  |some t=>
   rw[aJ] at h;rw[RO aJ] at h;split at h
   ·simpa using h
   ·cases h
 ·unfold QO at az;rw[rF] at az;have:=az fn (by simpa using HW aA);cases hY:fn.body with
  |none=>rw[hY] at ai;cases ai
  |some c=>simpa[hY] using this
def lay (T:aW e3):List (Nat×TypeId×List Value)->aW e3
 |[]=>T
 |(g,e,cells)::l=>match aW.put (.row cells e false 0 s' true) (lay T l) g with
  |some dD=>dD
  |none=>lay T l
theorem akR{T:aW e3}:∀{l:List (Nat×TypeId×List Value)} {g:Nat} {b:e3},(lay T l).get g=some b->T.get g=some b\/∃e cells,(g,e,cells)∈l/\b=.row cells e false 0 s' true:=by
 intro l;induction l with
 |nil=>intro g b h;exact .inl h
 |cons x l aP=>
  intro g b h;obtain⟨UP,e,cells⟩:=x;simp only[lay] at h;cases ao:aW.put (e3.row cells e false 0 s' true) (lay T l) UP with
  |none=>
   rw[ao] at h;rcases aP h with q|⟨bC,c',aK,aH⟩
   ·exact .inl q
   ·exact .inr ⟨bC,c',by simp[aK],aH⟩
  |some dD=>
   rw[ao] at h;simp only at h;rw[aW.get_put ao] at h;by_cases ax:g=UP
   ·subst ax;rw[a2 rfl] at h;injection h with h
    exact .inr ⟨e,cells,by simp,h.symm⟩
   ·rw[aZ ax] at h;rcases aP h with q|⟨bC,c',aK,aH⟩
    ·exact .inl q
    ·exact .inr ⟨bC,c',by simp[aK],aH⟩
def UK (n d:Nat)(l:List (Nat×TypeId×List Value)):an:=⟨lay (aW.full .dead d) l,n,.leaf,0,n⟩
theorem akN{n d:Nat}{l:List (Nat×TypeId×List Value)}(h:∀g e cells,(g,e,cells)∈l->g<n/\(∃f,w.heap[g]?=some (.cells cells.toArray e f))/\cells.all plain=true/\cells.length<=s'):Laid P w (UK n d l):=by
 refine⟨rfl,rfl,fun g b ai=>?_⟩;rcases akR ai with q|⟨e,cells,aK,aH⟩
 ·rcases aW.UW e3.dead d g with r|r
  ·rw[r] at q;cases q
  ·rw[r] at q;injection q with q;exact .inl q.symm
 ·obtain⟨a7,⟨f,bc⟩,cu,c9⟩:=h g e cells aK;exact .inr ⟨cells,e,f,aH,a7,bc,cu,c9⟩
end
end
end Go.Cre
namespace Go.Cre
noncomputable section
open Go.ChangeShapes
theorem W4{P:Program}{W:World}{name:String}{k:IntKind}{zs:List Int}{g:Nat}{t:TypeId}(ax:P.globalNamed name=some g)(b9:g<P.globals.size)
 (aq:(((begin P (fun _ _=>0) default).world.heap[g]?).bind Obj.row?).map (·.2)=some t)(hs:W.ShapedOpen P)(aJ:Lib.TabIs P W name k zs):∃f,W.heap[g]?=some (.cells (zs.map fun z=>Value.int k z).toArray t f):=by
 obtain⟨⟨zero,k7⟩,ab,ad⟩:=vL.1 aq;simp only at ad;subst ad;obtain⟨cs,a,_⟩:=hs.1 g zero k7 b9 ab;unfold Lib.TabIs World.var? at aJ;rw[ax] at aJ;simp only[Th,a,cl] at aJ;subst aJ;exact⟨_,a⟩
end
end Go.Cre
namespace Go.Cre
noncomputable section
open Go.RowKit
section
variable {P:Program}{B:Nat->Prop}{w0 w:World}{μ:bL}{H:an}{S:aV}{fr:Frame}{tmps:Array Value}{ds:List Deferred}{cs:List Frame}
end
end
end Go.Cre
namespace Go.Cre
noncomputable section
open Go.RowKit
section
variable {P:Program}{B:Nat->Prop}{w0 w a5:World}{μ:bL}{H H0:an}
theorem bX.grow(h:bX P B w0 μ H w)(ai:Below w.heap.size w a5):bX P B w0 μ H a5:=by
 have b9:∀x bR,μ x=some bR->bR.r<w.heap.size:=fun x bR U=>by
  obtain⟨b',o',_,ah,_⟩:=h.fS x bR U;rcases hL bR.r w.heap.size with cT|cT
  ·exact cT
  ·rw[sE cT] at ah;cases ah
 refine⟨h.below.trans (.amr ai h.nK),fun k hk=>hA (h.nK k hk) ai.size,fun x L U=>?_,h.sep,h.lt,h.own,h.new,h.te,h.kc,h.qS,h.kR,h.uL⟩;obtain⟨b,o,ab,ad,aL⟩:=h.fS x L U;exact⟨b,o,ab,by rw[ai.block _ (b9 x L U)];exact ad,aL⟩
def H9(H0:an)(B:Nat->Prop):Prop:=∀g b,H0.mem.get g=some b->b≠.dead->B g
theorem Laid.fF{B:Nat->Prop}(h:Laid P w0 H0)(eh:H9 H0 B)(hk:Kept B w0 w):Laid P w H0:=by
 refine⟨h.bw,h.ay,fun g b ax=>?_⟩;rcases h.rows g b ax with q|⟨cells,e,f,aK,aH,bJ,dU,fP⟩
 ·exact .inl q
 ·exact .inr ⟨cells,e,f,aK,aH,by rw[hk.block g (eh g b ax (by rw[aK];intro q;cases q))];exact bJ,dU,fP⟩
theorem Laid.aki(h:Laid P w0 H0):H9 H0 (fun k=>k<w0.heap.size):=fun g b ax ai=>by
 rcases h.rows g b ax with q|⟨cells,e,f,aK,aH,bJ,dU,fP⟩
 ·exact absurd q ai
 ·exact(LK.1 bJ).1
end
end
end Go.Cre
namespace Go.Cre
noncomputable section
end
end Go.Cre

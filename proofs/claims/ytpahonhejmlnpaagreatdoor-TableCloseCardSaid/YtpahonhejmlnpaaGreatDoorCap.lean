/- A part of the proof of TableClose. -/
import Derived.Test.YtpahonhejmlnpaaGreatDoorCao
import Derived.Laws.Sem
import Derived.Lib.MakeNoZero
import Derived.KernelRfl
set_option linter.unusedVariables false
set_option linter.unusedSimpArgs false
namespace Go.Cre
noncomputable section
open Go.RowKit
section
variable {P:Program}{B:Nat->Prop}{w0 w:World}{μ eE bd:bz}{H H1 H':ai}{S a1 aB:aT}{fr:Frame}{tmps:Array Value}{ds:List Deferred}{cs fs:List Frame}
def BJ (tmps:Array Value):ResultVar->Sem Value
 |.tmp t=>pure (tmps.getD t undef)
 |.cell a t=>do loadVar t (<-asAddr (tmps.getD a undef))
theorem VG(h:bL P B w0 μ H w){T:aQ Value}{n:Nat}(aM:iE μ T n tmps):∀{l:List ResultVar} {vs:List Value},ns P T H l=some vs->
 ∃k2,(l.mapM (BJ tmps)).run P w=.ok k2 w/\bF μ vs k2:=by
 intro l;induction l with
 |nil=>intro vs he;simp[ns] at he;subst he;exact⟨[],by simp,bF.nil _⟩
 |cons x l aP=>
  intro vs he;cases x with
  |tmp t=>
   simp only[ns] at he;cases b6:T.get t with
   |none=>rw[b6] at he;cases he
   |some u=>
    rw[b6] at he;cases aA:ns P T H l with
    |none=>rw[aA] at he;cases he
    |some r=>
     rw[aA] at he;injection he with he;subst he
     obtain⟨k2,a,b⟩:=aP aA;refine⟨tmps.getD t undef::k2,?_,bF.cons (aM.2 t u b6) b⟩;rw[K9];have e:BJ tmps (.tmp t)=pure (tmps.getD t undef):=rfl;rw[e];simp only[Sem.run_bind,Sem.run_pure,Result.andThen,a]
  |cell c t=>
   simp only[ns] at he;cases b6:T.get c with
   |none=>rw[b6] at he;cases he
   |some u=>
    rw[b6] at he;simp only at he;cases ay:vw P H t u with
    |none=>rw[ay] at he;cases he
    |some v=>
     rw[ay] at he;cases aA:ns P T H l with
     |none=>rw[aA] at he;cases he
     |some r=>
      rw[aA] at he;injection he with he;subst he
      obtain⟨k2,a,b⟩:=aP aA;have hu:=aM.2 c u b6;unfold vw at ay;cases u with
      |pointer p=>
       cases p with
       |none=>cases ay
       |some p=>
        obtain⟨id,off,L,rfl,bP,cc⟩:=hu.me;simp only at ay;obtain⟨v',aa,ab⟩:=MR h bP ay;refine⟨v'::k2,?_,bF.cons ab b⟩;rw[K9];have e:(BJ tmps (.cell c t)).run P w=.ok v' w:=by
         show(do loadVar t (<-asAddr (tmps.getD c undef)):Sem Value).run P w=_;rw[cc];simp[asAddr,aa]
        simp only[Sem.run_bind,e,Result.andThen,a,Sem.run_pure]
      |_=>cases ay
theorem acL(h:bL P B w0 μ H w){T:aQ Value}{n:Nat}(aM:iE μ T n tmps){fn:Func}{vs:List Value}(he:ns P T H fn.results.toList=some vs):
 ∃v',(results fn tmps).run P w=.ok v' w/\bc μ (oz vs) v':=by
 obtain⟨k2,a,b⟩:=VG h aM he;have hm:(fn.results.mapM (BJ tmps)).run P w=.ok k2.toArray w:=by
  rw[Sd];simp[a]
 have al:results fn tmps=(do let vs <-fn.results.mapM (BJ tmps);pure (if h:vs.size=1 then vs[0] else .tuple vs)):=by
  unfold results;congr 2
 rw[al];simp only[Sem.run_bind,hm,Result.andThen,Sem.run_pure];refine⟨_,rfl,?_⟩;by_cases aa:k2.length=1
 ·have ab:vs.length=1:=b.1.trans aa;obtain⟨v,rfl⟩:=SA.1 ab;obtain⟨v',rfl⟩:=SA.1 aa;simpa[oz] using b.2 0 v v' rfl rfl
 ·have ab:vs.length≠1:=fun q=>aa (b.1.symm.trans q);have e:oz vs=.tuple vs.toArray:=by
   unfold oz;split
   ·simp at ab
   ·rfl
  rw[e];have:¬k2.toArray.size=1:=by simpa using aa
  rw[dif_neg this];exact bc.J6 b
theorem g7.ji{bw:List PanicEntry}(h:g7 μ [] bw):bw=[]:=pH h.1.symm
theorem g7.hO{x:PanicEntry}{c bw:List PanicEntry}(h:g7 μ (x::c) bw):∃dg d,bw=dg::d/\dg.recovered=x.recovered/\dg.goexit=x.goexit/\bc μ x.v dg.v/\g7 μ c d:=by
 cases bw with
 |nil=>have:=h.1;simp at this
 |cons dg d=>
  obtain⟨a,b,e⟩:=h.2 0 x dg rfl rfl;exact⟨dg,d,rfl,a,b,e,by have:=h.1;simpa using this,fun i p q ao cc=>h.2 (i+1) p q (by simpa using ao) (by simpa using cc)⟩
theorem g7.nil(μ:bz):g7 μ [] []:=⟨rfl,fun i e bk h=>by simp at h⟩
theorem g7.cons{x dg:PanicEntry}{c bw:List PanicEntry}(aa:dg.recovered=x.recovered)(ab:dg.goexit=x.goexit)(aY:bc μ x.v dg.v)(h:g7 μ c bw):g7 μ (x::c) (dg::bw):=
 ⟨by simp[h.1],fun i p q ao cc=>by
  cases i with
  |zero=>simp at ao cc;subst ao;subst cc;exact⟨aa,ab,aY⟩
  |succ i=>exact h.2 i p q (by simpa using ao) (by simpa using cc)⟩
theorem g7.append{a bE b b':List PanicEntry}(h:g7 μ a bE)(k:g7 μ b b'):g7 μ (a++b) (bE++b'):=by
 induction a generalizing bE with
 |nil=>obtain rfl:=h.ji;exact k
 |cons x a aP=>obtain⟨dg,d,rfl,aa,ab,aY,bu⟩:=h.hO;exact .cons aa ab aY (aP bu)
theorem g7.dropWhile{a bE:List PanicEntry}(h:g7 μ a bE):g7 μ (a.dropWhile (!·.goexit)) (bE.dropWhile (!·.goexit)):=by
 induction a generalizing bE with
 |nil=>obtain rfl:=h.ji;exact .nil _
 |cons x a aP=>
  obtain⟨dg,d,rfl,aa,ab,aY,bu⟩:=h.hO;simp only[List.dropWhile,ab];cases x.goexit with
  |true=>exact h
  |false=>exact aP bu
theorem ac4{u gY:FrameMode}(h:ms μ u gY):ms μ (settle u) (settle gY):=by
 cases u with
 |run=>cases gY<;>first|exact h.elim|trivial
 |returning=>cases gY<;>first|exact h.elim|trivial
 |panicking c=>
  cases gY with
  |run=>exact h.elim
  |returning=>exact h.elim
  |panicking bw=>
   have h:g7 μ c bw:=h;cases c with
   |nil=>obtain rfl:=h.ji;exact h
   |cons x c=>
    obtain⟨dg,d,rfl,aa,ab,aY,bu⟩:=h.hO;obtain⟨wR,afa,ae'⟩:=x;obtain⟨Kt,Ks,R5⟩:=dg;simp only at aa ab aY;subst aa;subst ab;cases Ks with
    |false=>exact h
    |true=>
     have au:=bu.dropWhile;simp only[settle];cases cc:c.dropWhile (!·.goexit) with
     |nil=>rw[cc] at au;rw[au.ji];trivial
     |cons y r=>
      rw[cc] at au;obtain⟨kI,cg,e,_⟩:=au.hO;rw[e] at au ⊢;exact au
theorem acs{u gY:FrameMode}{c bw:List PanicEntry}(h:ms μ u gY)(aL:g7 μ c bw):ms μ (raised u c) (raised gY bw):=by
 cases u with
 |run=>cases gY<;>first|exact h.elim|exact aL
 |returning=>cases gY<;>first|exact h.elim|exact aL
 |panicking d=>
  cases gY with
  |run=>exact h.elim
  |returning=>exact h.elim
  |panicking ih=>exact aL.append h
theorem ac3{u:FrameMode}(h:u≠.run):settle u≠.run:=by
 unfold settle;split
 ·split<;>(intro q;cases q)
 ·exact h
theorem acr{u:FrameMode}{c:List PanicEntry}:raised u c≠.run:=by
 unfold raised;split<;>(intro q;cases q)
theorem Vy{E:eT}{fn:Func}{T:aQ Value}{eY:List Deferred}{r:Ending×ai}(h:gl P E fn T eY .run H=some r):False:=by
 cases eY with
 |nil=>simp[gl] at h
 |cons d l=>simp[gl,A0] at h
def qN(P:Program)(B:Nat->Prop)(w0:World)(body:FuncId->List Value->Bool->FrameMode->ai->Option (Ending×FrameMode×ai)):Prop:=
 ∀f args bf H e fx H',body f args true bf H=some (e,fx,H')->∀μ w b5,bL P B w0 μ H w->bF μ args b5->
  (callFunc f b5.toArray).run P w=.ok (.enter f b5.toArray) w/\
  ∀(c:Frame) (cs:List Frame),ms μ bf c.mode->∃bd a7 bk gY fr,bL P B w0 bd H' a7/\Step μ bd H H'/\y9 bd e bk/\ms bd fx gY/\
   Steps P (lone (Frame.enter P f b5.toArray .deferred) (c::cs) w) (lone fr ({c with mode:=gY}::cs) a7)/\fr.kind=.deferred/\fr.going P a7 bk
theorem Vz{E:eT}(vP:qN P B w0 E.body){fn:Func}{T:aQ Value}{n:Nat}:∀(eY:List Deferred) (u:FrameMode) (H:ai) (e:Ending) (H':ai),gl P E fn T eY u H=some (e,H')->
 ∀(μ:bz) (w:World) (fr:Frame) (cs:List Frame),bL P B w0 μ H w->iE μ T n fr.tmps->pE μ eY fr.defers->ms μ u fr.mode->u≠.run->P.funcs[fr.fn]?=some fn->
 ∃bd a7 bk ld,bL P B w0 bd H' a7/\Step μ bd H H'/\y9 bd e bk/\Steps P (lone fr cs w) (lone ld cs a7)/\ld.kind=fr.kind/\ld.fn=fr.fn/\ld.going P a7 bk:=by
 intro eY;induction eY with
 |nil=>
  intro u H e H' he μ w fr cs h aM au hm hu az;cases gm:fr.defers with
  |cons d l=>rw[gm] at au;cases au
  |nil=>
   cases u with
   |run=>exact absurd rfl hu
   |returning=>
    have Ay:fr.mode=.returning:=by cases cc:fr.mode<;>rw[cc] at hm<;>first|rfl|exact hm.elim
    simp only[gl] at he;cases al:ns P T H fn.results.toList with
    |none=>rw[al] at he;cases he
    |some vs=>
     rw[al] at he;simp only[b9,c'] at he;obtain⟨rfl,rfl⟩:=he;obtain⟨v',a,b⟩:=acL h aM al;exact⟨μ,w,.returned v',fr,h,Step.refl _ _,b,.refl P _,rfl,rfl,Ay,gm,fn,az,a⟩
   |panicking c=>
    cases cc:fr.mode with
    |run=>rw[cc] at hm;exact hm.elim
    |returning=>rw[cc] at hm;exact hm.elim
    |panicking bw=>
     rw[cc] at hm;simp only[gl,b9,c'] at he;obtain⟨rfl,rfl⟩:=he;exact⟨μ,w,.panicked bw,fr,h,Step.refl _ _,hm,.refl P _,rfl,rfl,cc,gm,fn,az⟩
 |cons d eY aP=>
  intro u H e H' he μ w fr cs h aM au hm hu az;have fK:fr.mode≠.run:=fun q=>by rw[q] at hm;cases u<;>first|exact hu rfl|exact hm.elim
  cases gm:fr.defers with
  |nil=>rw[gm] at au;cases au
  |cons ih en=>
   rw[gm] at au;cases au with
   |cons _ _ _ _ XE sI=>
   simp only[gl] at he;have AB:A0 u=false:=by cases u<;>first|exact absurd rfl hu|rfl
   rw[AB,da] at he;rcases XE with⟨jd,cap,dx,t1,t2,t3,t4,t5⟩|⟨r,L,t1,t2,t3⟩
   ·rw[t1] at he;simp only at he;cases xS:j9 P H jd d.args.toList cap.toList with
    |none=>rw[xS] at he;cases he
    |some p=>
     obtain⟨f,args⟩:=p;rw[xS] at he;simp only at he;obtain⟨ie,bx,bX⟩:=Gy (w:=w) t5 t4 xS;cases ah:E.body f args true u H with
     |none=>rw[ah] at he;cases he
     |some q=>
      obtain⟨aC,fx,H1⟩:=q;rw[ah] at he;obtain⟨br,bN⟩:=vP f args u H aC fx H1 ah μ w ie h bX;have hinv:(invoke ih.target ih.args).run P w=.ok (.enter f ie.toArray) w:=by
       rw[t2];have aC:dx.toList.toArray=dx:=by simp
       have aZ:ih.args.toList.toArray=ih.args:=by simp
       rw[aC,aZ] at bx;rw[bx];exact br
      have aa:=step_defer (cs:=cs) fK gm t2 hinv;obtain⟨eE,bh,pP,gY,agk,bn,bQ,cZ,dH,e2,dU,gA⟩:=bN {fr with defers:=en} cs hm;have agU:fx≠.run->gY≠.run:=fun q c3=>by rw[c3] at dH;cases fx<;>first|exact q rfl|exact dH.elim
      cases aC with
      |outgrown=>cases he
      |returned v=>
       cases pP with
       |returned v'=>
        simp only at he;by_cases Ox:fx=.run
        ·exfalso;rw[Ox] at he
         --a running frame af7 not leave
         have:settle FrameMode.run=.run:=rfl;rw[this] at he;exact(Vy (P:=P) (E:=E) he).elim
        have ab:=step_going_returned (P:=P) (c:={{fr with defers:=en} with mode:=gY}) (cs:=cs) dU gA;obtain⟨hS,cb,aZ,vz,cm,cn,cR,fk,e9,fY,fJ⟩:=aP (settle fx) H1 e H' he eE bh {{{fr with defers:=en} with mode:=gY} with mode:=settle gY} cs bn (aM.mono bQ.ext) (sI.mono bQ.ext) (ac4 dH) (ac3 Ox) az;exact⟨hS,cb,aZ,vz,cm,bQ.trans cn,cR,(Steps.head aa (Steps.trans e2 (.one ab))).trans fk,e9,fY,fJ⟩
       |panicked c=>exact cZ.elim
       |outgrown=>exact cZ.elim
      |panicked cf=>
       cases pP with
       |returned v'=>exact cZ.elim
       |outgrown=>exact cZ.elim
       |panicked vh=>
        simp only at he;have ab:=step_going_panicked (P:=P) (c:={{fr with defers:=en} with mode:=gY}) (cs:=cs) gA;obtain⟨hS,cb,aZ,vz,cm,cn,cR,fk,e9,fY,fJ⟩:=aP (raised fx cf) H1 e H' he eE bh {{{fr with defers:=en} with mode:=gY} with mode:=raised gY vh} cs bn (aM.mono bQ.ext) (sI.mono bQ.ext) (acs dH cZ) acr az;exact⟨hS,cb,aZ,vz,cm,bQ.trans cn,cR,(Steps.head aa (Steps.trans e2 (.one ab))).trans fk,e9,fY,fJ⟩
   ·rw[t1] at he;simp only at he;cases sP:H.mem.get r with
    |none=>rw[sP] at he;cases he
    |some b=>
     rw[sP] at he;cases b with
     |ft o=>
      cases o with
      |none=>cases he
      |some l=>
       cases l with
       |cons x y=>cases he
       |nil=>
        simp only at he;cases aq:Nat.ble H.bp r with
        |false=>rw[aq] at he;cases he
        |true=>
         rw[aq,b1] at he;have aq:=gy aq;cases AN:H.upd r (.ft none) with
         |none=>rw[AN] at he;cases he
         |some H1=>
          rw[AN] at he;obtain⟨LY,aaU,aR,aN,bG⟩:=h.e6 r L t2;rw[sP] at aR;injection aR with aR;subst aR
          cases aaU with
          |deferred vp=>
           obtain⟨rfl,_⟩:=bG;obtain⟨bn,bQ⟩:=h.RY t2 aq sP (fun _ _ _ _ _ _ q=>by cases q) (fun q=>by cases q) AN (fun _ _ _ _ _ _ q=>by cases q) (o':=.deferred none) (b':=.ft none) ⟨rfl,.inr rfl⟩;have Ov:(Instr.takeDeferred L.r).run P w=.ok [] {w with heap:=w.heap.setIfInBounds L.r (.deferred none)}:=by
            simp[Instr.takeDeferred,getObj,setObj,Sem.run,aN]
           have aa:step P (lone fr cs w)=.next (lone {fr with defers:=en} cs {w with heap:=w.heap.setIfInBounds L.r (.deferred none)}):=by
            refine step_lone_go ?_;obtain⟨aga,af6⟩:=ih;simp only at t3;subst t3;cases Ay:fr.mode with
            |run=>exact absurd Ay fK
            |returning=>simp[stepG,unwind,Ay,gm,Ov]
            |panicking cf=>simp[stepG,unwind,Ay,gm,Ov]
           obtain⟨hS,cb,aZ,vz,cm,cn,cR,fk,e9,fY,fJ⟩:=aP u H1 e H' he μ _ {fr with defers:=en} cs bn aM sI hm hu az;exact⟨hS,cb,aZ,vz,cm,bQ.trans cn,cR,.head aa fk,e9,fY,fJ⟩
          |_=>exact bG.elim
     |_=>cases he
end
end
end Go.Cre
namespace Go.Cre
noncomputable section
open Go.RowKit
section
variable {P:Program}{B:Nat->Prop}{w0 w:World}{μ eE bd:bz}{H H1 H':ai}{S a1 aB:aT}{fr:Frame}{tmps:Array Value}{ds:List Deferred}{cs fs:List Frame}{k:List Item}
theorem ado(al:fr.roundOf=none):step P (lone (bt fr tmps ds []) cs w)=.next (lone {bt fr tmps ds [] with mode:=.returning} cs w):=step_lone_go (by simp[stepG,stepG.exec,bt,al])
theorem adB(al:fr.roundOf=none):step P (lone (bt fr tmps ds (.code .ret::k)) cs w)=.next (lone {bt fr tmps ds (.code .ret::k) with mode:=.returning} cs w):=step_lone_go (by simp[stepG,stepG.exec,bt,al])
theorem ab1:∀{l l':List Value},l.all plain=true->bF μ l l'->l'=l:=by
 intro l;induction l with
 |nil=>intro l' _ h;exact h.ji
 |cons x l aP=>
  intro l' ao h;obtain⟨dg,m,rfl,aa,ab⟩:=h.hO;simp only[zd,fp] at ao;rw[aP ao.2 ab,bc.Ev ao.1 aa]
theorem PG(fn:Func)(aa:fn.name= "internal/bytealg.MakeNoZero"\/fn.name= "internal/abi.NoEscape")(ab:fn.origin= ""):Extern.findNext fn=none:=by
 have aC:Extern.allNextRows.lookup "internal/bytealg.MakeNoZero"=none:=by kernel_rfl
 have aZ:Extern.allNextRows.lookup "internal/abi.NoEscape"=none:=by kernel_rfl
 have cJ:Extern.allNextRows.lookup ""=none:=by kernel_rfl
 unfold Extern.findNext;rcases aa with aa|aa<;>rw[aa,ab]<;>simp[aC,aZ,cJ]
theorem VV(fn:Func)(aa:fn.name= "internal/bytealg.MakeNoZero"):Extern.find fn=some (Extern.BytealgMakeNoZero.makeNoZero fn.params fn.resultTypes):=by
 have aC:Extern.allGenericRows.lookup "internal/bytealg.MakeNoZero"=none:=by kernel_rfl
 have aZ:Extern.allTypedRows.lookup "internal/bytealg.MakeNoZero"=some Extern.BytealgMakeNoZero.makeNoZero:=by kernel_rfl
 unfold Extern.find;rw[aa];simp[aC,aZ]
theorem VW(fn:Func)(aa:fn.name= "internal/abi.NoEscape"):Extern.find fn=some Extern.AbiNoEscape.same:=by
 have aC:Extern.allGenericRows.lookup "internal/abi.NoEscape"=none:=by kernel_rfl
 have aZ:Extern.allTypedRows.lookup "internal/abi.NoEscape"=none:=by kernel_rfl
 have cJ:Extern.allRows.lookup "internal/abi.NoEscape"=some Extern.AbiNoEscape.same:=by kernel_rfl
 unfold Extern.find;rw[aa];simp[aC,aZ,cJ]
theorem Mh{f:FuncId}{fn:Func}(az:P.funcs[f]?=some fn)(ah:fn.body=none)(aw:(fn.name== "runtime.NumGoroutine")=false)(aa:Extern.findNext fn=none){x:Array Value->Sem Value}(ab:Extern.find fn=some x){args:Array Value}{v:Value}{a7:World}(U:(x args).run P w=.ok v a7):
 (callFunc f args).run P w=.ok (.value v) a7:=by
 have t':¬fn.name= "runtime.NumGoroutine":=by simpa using aw
 simp[callFunc,program,Sem.run,az,ah,t',aa,ab,mark,U]
theorem Vv{f:FuncId}{fn:Func}{args b5:List Value}{e:Ending}(az:P.funcs[f]?=some fn)(ah:fn.body=none)(h:bL P B w0 μ H w)(aA:bF μ args b5)(he:vv P fn f args H=some (e,H')):
 ∃v v' a7 bd,e=.returned v/\(callFunc f b5.toArray).run P w=.ok (.value v') a7/\bL P B w0 bd H' a7/\Step μ bd H H'/\bc bd v v':=by
 unfold vv at he;cases ao:args.all plain with
 |true=>
  rw[ao,b1] at he;obtain rfl:=ab1 ao aA;have hzero:GF P fn H b5 fn.resultTypes.toList=some (e,H')->∃v v' a7 bd,e=.returned v/\(callFunc f b5.toArray).run P w=.ok (.value v') a7/\bL P B w0 bd H' a7/\Step μ bd H H'/\bc bd v v':=by
   intro he;unfold GF at he;split at he
   ·rename_i n t mN _;cases aL:(decide (fn.name= "internal/bytealg.MakeNoZero")&&decide (fn.origin= "")&&Nat.ble n 1000000) with
    |false=>rw[aL] at he;cases he
    |true=>
     rw[aL,b1] at he;simp only[fp,CO] at aL;obtain⟨⟨aR,aN⟩,bG⟩:=aL;have bG:=gy bG;split at he
     ·rename_i el hu;cases kc:Nat.beq (P.cellsOf el) 1 with
      |false=>rw[kc] at he;cases he
      |true=>
       rw[kc,b1] at he;have kc:=dX kc;unfold MW at he;cases gD:H.lM [] el false with
       |none=>rw[gD] at he;cases he
       |some p=>
        obtain⟨id,H1⟩:=p;rw[gD] at he;simp only[b9,c'] at he;obtain⟨rfl,rfl⟩:=he;obtain⟨zK,bn,bQ,cZ⟩:=Lib.run_makeNoZero w fn.params t el hu n (by omega);have YF:fn.resultTypes=#[t]:=by
         apply oG;rw[mN]
        obtain⟨cE,eW,rfl⟩:=(h.drew.drew).IR (o:=.cells zK el) (L:=⟨w.heap.size,zK.size,1⟩) gD rfl (fun f=>⟨rfl,rfl,kc,fB _,(fun q=>by cases q),(fun i v v' q=>by simp at q),⟨fun off _ a b=>by simp at b,fun _=>.inl rfl⟩⟩);refine⟨_,.slice (some ⟨w.heap.size,0,none⟩) n zK.size,_,_,rfl,?_,cE,eW,.m6 _ 0 n zK.size ⟨w.heap.size,zK.size,1⟩ (bz.iw _ _ _) bQ (by simp)⟩;refine Mh az ah (by rw[aR];rfl) (PG fn (.inl aR) aN) (VV fn aR) ?_;rw[YF];exact bn
     ·cases he
   ·cases he
  unfold GG at he;split at he
  ·rename_i v gd;cases H3:plain v with
   |false=>rw[H3] at he;cases he
   |true=>
    rw[H3,b1] at he;simp only[b9,c'] at he;obtain⟨rfl,rfl⟩:=he;exact⟨v,v,w,μ,rfl,MV gd w,h,Step.refl _ _,mZ H3⟩
  ·exact hzero he
 |false=>
  rw[ao,da] at he;unfold MX at he;split at he
  ·rename_i v;cases aL:(decide (fn.name= "internal/abi.NoEscape")&&decide (fn.origin= "")) with
   |false=>rw[aL] at he;cases he
   |true=>
    rw[aL,b1] at he;simp only[fp,CO] at aL;obtain⟨aR,aN⟩:=aL;simp only[b9,c'] at he;obtain⟨rfl,rfl⟩:=he;obtain⟨v',l',rfl,aa,ab⟩:=aA.hO;obtain rfl:=ab.ji;refine⟨v,v',w,μ,rfl,?_,h,Step.refl _ _,aa⟩;exact Mh az ah (by rw[aR];rfl) (PG fn (.inr aR) aN) (VW fn aR) rfl
  ·cases he
theorem aQ.M8{α:Type}(a:α):∀(d n:Nat),(aQ.full a d).get n=none\/(aQ.full a d).get n=some a:=by
 intro d;induction d with
 |zero=>intro n;exact .inl rfl
 |succ d aP=>
  intro n;cases n with
  |zero=>exact .inr rfl
  |succ m=>
   have e:aQ.full a (d+1)=.node (some a) (aQ.full a d) (aQ.full a d):=rfl;rw[e,aQ.n6];split<;>exact aP _
theorem Tq:∀{l:List Value} {i:Nat} {T di:aQ Value},lA l i T=some di->∀t,di.get t=if i<=t/\t<i+l.length then l[t -i]? else T.get t:=by
 intro l;induction l with
 |nil=>intro i T di h t;simp[lA] at h;subst h;rw[a3 (by rw[zf];omega)]
 |cons v l aP=>
  intro i T di h t;simp only[lA] at h;cases af:aQ.set yQ T i v with
  |none=>rw[af] at h;cases h
  |some nj=>
   rw[af] at h;rw[aP h t,aQ.GQ af];by_cases aa:i+1<=t/\t<i+1+l.length
   ·rw[bg aa,bg (by simp;omega)];have:t -i=(t -(i+1))+1:=by omega
    rw[this];rfl
   ·rw[a3 aa];by_cases ab:t=i
    ·subst ab;rw[bg rfl,bg (by simp)];simp
    ·rw[a3 ab,a3 (by simp;omega)]
theorem V3{args b5:List Value}{n:Nat}{T:aQ Value}(aA:bF μ args b5)(b6:lA args 0 (blank n)=some T):iE μ T n (b5.toArray++Array.replicate (n -b5.toArray.size) undef):=by
 refine⟨by simp;omega,fun t v h=>?_⟩;rw[Tq b6] at h;by_cases aM:t<args.length
 ·rw[bg ⟨fB _,by omega⟩,Nat.sub_zero] at h;have DM:t<b5.length:=by have:=aA.1;omega
  have:(b5.toArray++Array.replicate (n -b5.toArray.size) undef).getD t undef=b5[t]:=by
   simp[KD,DM]
  rw[this];exact aA.2 t v _ h (eO DM)
 ·rw[a3 (by omega)] at h;have hu:v=undef:=by
   rcases aQ.M8 undef (GH n) t with q|q
   ·unfold blank at h;rw[q] at h;cases h
   ·unfold blank at h;rw[q] at h;injection h with h;exact h.symm
  subst hu;have DM:¬t<b5.length:=by have:=aA.1;omega
  have:(b5.toArray++Array.replicate (n -b5.toArray.size) undef).getD t undef=undef:=by
   simp only[Array.getD_eq_getD_getElem?,KD,Lc,DM,yi,Array.getElem?_replicate];split<;>rfl
  rw[this];exact bc.undef μ
theorem L8{E:eT}(tU:oH P B w0 E.code)(vP:qN P B w0 E.body){f:FuncId}{fn:Func}{c:Code}{args b5:List Value}{bB:Bool}{bf fx:FrameMode}{e:Ending}
 (az:P.funcs[f]?=some fn)(ah:fn.body=some c)(he:zv P E fn c bB bf H (lA args 0 (blank fn.ntmps))=some (e,fx,H'))
 (h:bL P B w0 μ H w)(aA:bF μ args b5)(cs:List Frame)(iq:bB=true->∃vd rest,cs=vd::rest/\ms μ bf vd.mode):
 ∃bd a7 bk ld cw,bL P B w0 bd H' a7/\Step μ bd H H'/\y9 bd e bk/\Steps P (lone (Frame.enter P f b5.toArray (if bB then .deferred else .normal)) cs w) (lone ld cw a7)/\
  ld.kind=(if bB then .deferred else .normal)/\ld.fn=f/\ld.going P a7 bk/\iA bB cs cw/\(bB=true->∃bn rest,cw=bn::rest/\ms bd fx bn.mode):=by
 cases b6:lA args 0 (blank fn.ntmps) with
 |none=>rw[b6] at he;cases he
 |some T=>
  rw[b6] at he;have he:so P E fn (E.code c ⟨T,fn.ntmps,[],bB,bf,none⟩ H)=some (e,fx,H'):=he
  let jc:Frame:=Frame.enter P f b5.toArray (if bB then .deferred else .normal)
  have iQ:jc=bt jc (b5.toArray++Array.replicate (fn.ntmps -b5.toArray.size) undef) [] [.code c]:=by
   simp[jc,Frame.enter,bt,az,ah]
  have bY:gO μ ⟨T,fn.ntmps,[],bB,bf,none⟩ jc (b5.toArray++Array.replicate (fn.ntmps -b5.toArray.size) undef) [] cs:=
   ⟨V3 aA b6,.nil,rfl,fun _=>rfl,(fun l q=>by cases q),iq⟩
  cases al:E.code c ⟨T,fn.ntmps,[],bB,bf,none⟩ H with
  |none=>rw[al] at he;cases he
  |some p=>
   obtain⟨x,a1,H1⟩:=p;rw[al] at he;have aL:=tU c _ H x a1 H1 al μ w jc _ [] cs [] (.code c) h bY (.inl rfl);rw[<-iQ] at aL;have dL:jc.roundOf=none:=rfl
   --tj frame leaves
   have fin:∀(u jl:FrameMode) (eE:bz) (bh:World) (t1:Array Value) (d1:List Deferred) (fs:List Frame) (a9:List Item),Reached P B w0 μ H ⟨T,fn.ntmps,[],bB,bf,none⟩ jc cs a1 H1 eE bh t1 d1 fs->ms eE u jl->u≠.run->
    Steps P (lone jc cs w) (lone {bt jc t1 d1 a9 with mode:=jl} fs bh)->nk a1.bf (gl P E fn a1.T a1.ds u H1)=some (e,fx,H')->
    ∃bd a7 bk ld cw,bL P B w0 bd H' a7/\Step μ bd H H'/\y9 bd e bk/\Steps P (lone jc cs w) (lone ld cw a7)/\
     ld.kind=(if bB then .deferred else .normal)/\ld.fn=f/\ld.going P a7 bk/\iA bB cs cw/\(bB=true->∃bn rest,cw=bn::rest/\ms bd fx bn.mode):=by
    intro u jl eE bh t1 d1 fs a9 jQ hm hu dM o4;cases sN:gl P E fn a1.T a1.ds u H1 with
    |none=>rw[sN] at o4;cases o4
    |some q=>
     obtain⟨aZ,bK⟩:=q;rw[sN] at o4;have o4:some (aZ,a1.bf,bK)=some (e,fx,H'):=o4;simp only[b9,c'] at o4;obtain⟨rfl,rfl,rfl⟩:=o4;obtain⟨hS,cb,bk,vz,cm,cn,cR,fk,e9,fY,fJ⟩:=Vz vP a1.ds u H1 aZ bK sN eE bh {bt jc t1 d1 a9 with mode:=jl} fs jQ.h jQ.f.t jQ.f.d hm hu az;refine⟨hS,cb,bk,vz,fs,cm,jQ.jk.trans cn,cR,dM.trans fk,e9,fY,fJ,jQ.c,fun au=>?_⟩;obtain⟨bn,rest,a,b⟩:=jQ.f.bf (jQ.bB.trans au);exact⟨bn,rest,a,b.mono cn.ext⟩
   cases x with
   |normal=>
    obtain⟨eE,bh,t1,d1,fs,jQ,dM⟩:=aL;exact fin .returning .returning eE bh t1 d1 fs [] jQ trivial (fun q=>by cases q) (dM.trans (.one (ado dL))) he
   |ret=>
    obtain⟨eE,bh,t1,d1,fs,a9,jQ,dM⟩:=aL;exact fin .returning .returning eE bh t1 d1 fs (.code .ret::a9) jQ trivial (fun q=>by cases q) (dM.trans (.one (adB dL))) he
   |panic cf=>
    obtain⟨eE,bh,t1,d1,fs,vh,a9,jQ,Hs,dM⟩:=aL;exact fin (.panicking cf) (.panicking vh) eE bh t1 d1 fs a9 jQ Hs (fun q=>by cases q) dM he
   |exit id=>cases he
   |goto l=>cases he
   |outgrown=>cases he
structure pK (P:Program) (eK:aQ Func):Prop where
 ov:P.follows .mixedOrders=true
 eK:∀f fn,eK.get f=some fn->P.funcs[f]?=some fn
 num:∀(f:Nat) fn,P.funcs[f]?=some fn->fn.body.isSome=true->(fn.name== "runtime.NumGoroutine")=false
theorem zR{f:FuncId}{fn:Func}{c:Code}(az:P.funcs[f]?=some fn)(ah:fn.body=some c)(aw:(fn.name== "runtime.NumGoroutine")=false)(args:Array Value)(w:World):(callFunc f args).run P w=.ok (.enter f args) w:=by
 have t':¬fn.name= "runtime.NumGoroutine":=by simpa using aw
 simp[callFunc,program,Sem.run,az,ah,t']
theorem MN{eK:aQ Func}(eB:pK P eK){E:eT}(tU:oH P B w0 E.code)(vP:qN P B w0 E.body):qN P B w0 (oZ P eK E):=by
 intro f args bf H e fx H' he μ w b5 h aA;unfold oZ at he;cases nw:eK.get f with
 |none=>rw[nw] at he;cases he
 |some fn=>
  rw[nw] at he;have az:=eB.eK f fn nw;cases ah:fn.body with
  |none=>simp only[ah] at he;cases he
  |some c=>
   simp only[ah] at he;refine⟨zR az ah (eB.num f fn az (by rw[ah];rfl)) _ w,fun vd cs hm=>?_⟩;obtain⟨bd,a7,bk,ld,cw,cm,cn,cR,fk,e9,fY,fJ,nt,M4⟩:=L8 tU vP az ah he h aA (vd::cs) (fun _=>⟨vd,cs,rfl,hm⟩);obtain⟨bn,rest,m,aR,aN⟩:=nt;injection aR with aR bG;subst aR;subst bG
   obtain⟨bQ,wC,cX,cM⟩:=M4 rfl;rw[aN] at cX;injection cX with cX fo;subst cX;subst fo
   subst aN;exact⟨bd,a7,bk,m,ld,cm,cn,cR,cM,fk,e9,fJ⟩
theorem Gu{eK:aQ Func}(eB:pK P eK){E:eT}(tU:oH P B w0 E.code)(vP:qN P B w0 E.body):nc P B w0 (eT.call ⟨E.code,oZ P eK E⟩):=by
 intro f args H e H' he μ w b5 h aA;unfold eT.call at he;cases fC:oZ P eK E f args false .run H with
 |none=>simp only[fC] at he;cases he
 |some p=>
  obtain⟨aC,J9,H1⟩:=p;simp only[fC,b9,c'] at he;obtain⟨rfl,rfl⟩:=he;unfold oZ at fC;cases nw:eK.get f with
  |none=>rw[nw] at fC;cases fC
  |some fn=>
   rw[nw] at fC;have az:=eB.eK f fn nw;cases ah:fn.body with
   |none=>
    simp only[ah] at fC;have fC:nk .run (vv P fn f args H)=some (aC,J9,H1):=fC;cases U:vv P fn f args H with
    |none=>rw[U] at fC;cases fC
    |some q=>
     obtain⟨aZ,bK⟩:=q;rw[U] at fC;have fC:some (aZ,FrameMode.run,bK)=some (aC,J9,H1):=fC;simp only[b9,c'] at fC;obtain⟨rfl,rfl,rfl⟩:=fC;exact .inl (Vv az ah h aA U)
   |some c=>
    simp only[ah] at fC;refine .inr ⟨zR az ah (eB.num f fn az (by rw[ah];rfl)) _ w,fun cs=>?_⟩;obtain⟨bd,a7,bk,ld,cw,cm,cn,cR,fk,e9,fY,fJ,nt,M4⟩:=L8 tU vP az ah fC h aA cs (fun q=>by cases q);have iq:cw=cs:=nt;subst iq;refine⟨bk,a7,ld,⟨bd,cm,cn,cR⟩,?_,fY,?_⟩
    ·cases bk with
     |returned v=>exact fk
     |panicked cf=>exact fk
     |outgrown=>cases aC<;>exact cR.elim
    ·cases bk with
     |returned v=>obtain⟨a,b,c⟩:=fJ;exact⟨a,b,e9,c⟩
     |panicked cf=>exact fJ
     |outgrown=>trivial
end
end
end Go.Cre

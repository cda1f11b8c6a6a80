/- A part of the proof of SampleParts. -/
import Derived.Test.YtdbhjgpppmkagaaGreatCao
import Derived.Laws.Sem
import Derived.Lib.MakeNoZero
import Derived.KernelRfl
set_option linter.unusedVariables false
set_option linter.unusedSimpArgs false
namespace Go.Cre
noncomputable section
open Go.RowKit
section
variable {P:Program}{B:Nat->Prop}{w0 w:World}{μ e' bk:bH}{H H1 H':ao}{S ba aO:aQ}{fr:Frame}{tmps:Array Value}{ds:List Deferred}{cs gv:List Frame}
def FR (tmps:Array Value):ResultVar->Sem Value
 |.tmp t=>pure (tmps.getD t undef)
 |.cell a t=>do loadVar t (<-asAddr (tmps.getD a undef))
theorem aaW(h:bR P B w0 μ H w){T:aX Value}{n:Nat}(aN:jK μ T n tmps):∀{l:List ResultVar} {vs:List Value},pb P T H l=some vs->
 ∃ko,(l.mapM (FR tmps)).run P w=.ok ko w/\bN μ vs ko:=by
 intro l;induction l with
 |nil=>intro vs he;simp[pb] at he;subst he;exact⟨[],by simp,bN.nil _⟩
 |cons x l aG=>
  intro vs he;cases x with
  |tmp t=>
   simp only[pb] at he;cases dK:T.get t with
   |none=>rw[dK] at he;cases he
   |some u=>
    rw[dK] at he;cases ay:pb P T H l with
    |none=>rw[ay] at he;cases he
    |some r=>
     rw[ay] at he;injection he with he;subst he
     obtain⟨ko,a,b⟩:=aG ay;refine⟨tmps.getD t undef::ko,?_,bN.cons (aN.2 t u dK) b⟩;rw[PL];have e:FR tmps (.tmp t)=pure (tmps.getD t undef):=rfl;rw[e];simp only[Sem.run_bind,Sem.run_pure,Result.andThen,a]
  |cell c t=>
   simp only[pb] at he;cases dK:T.get c with
   |none=>rw[dK] at he;cases he
   |some u=>
    rw[dK] at he;simp only at he;cases ap:yW P H t u with
    |none=>rw[ap] at he;cases he
    |some v=>
     rw[ap] at he;cases ay:pb P T H l with
     |none=>rw[ay] at he;cases he
     |some r=>
      rw[ay] at he;injection he with he;subst he
      obtain⟨ko,a,b⟩:=aG ay;have hu:=aN.2 c u dK;unfold yW at ap;cases u with
      |pointer p=>
       cases p with
       |none=>cases ap
       |some p=>
        obtain⟨id,off,L,rfl,bB,cn⟩:=hu.n7;simp only at ap;obtain⟨v',aa,ab⟩:=RF h bB ap;refine⟨v'::ko,?_,bN.cons ab b⟩;rw[PL];have e:(FR tmps (.cell c t)).run P w=.ok v' w:=by
         show(do loadVar t (<-asAddr (tmps.getD c undef)):Sem Value).run P w=_;rw[cn];simp[asAddr,aa]
        simp only[Sem.run_bind,e,Result.andThen,a,Sem.run_pure]
      |_=>cases ap
theorem aix(h:bR P B w0 μ H w){T:aX Value}{n:Nat}(aN:jK μ T n tmps){fn:Func}{vs:List Value}(he:pb P T H fn.results.toList=some vs):
 ∃v',(results fn tmps).run P w=.ok v' w/\bj μ (qt vs) v':=by
 obtain⟨ko,a,b⟩:=aaW h aN he;have hm:(fn.results.mapM (FR tmps)).run P w=.ok ko.toArray w:=by
  rw[Xp];simp[a]
 have ax:results fn tmps=(do let vs <-fn.results.mapM (FR tmps);pure (if h:vs.size=1 then vs[0] else .tuple vs)):=by
  unfold results;congr 2
 rw[ax];simp only[Sem.run_bind,hm,Result.andThen,Sem.run_pure];refine⟨_,rfl,?_⟩;by_cases aa:ko.length=1
 ·have ab:vs.length=1:=b.1.trans aa;obtain⟨v,rfl⟩:=XK.1 ab;obtain⟨v',rfl⟩:=XK.1 aa;simpa[qt] using b.2 0 v v' rfl rfl
 ·have ab:vs.length≠1:=fun q=>aa (b.1.symm.trans q);have e:qt vs=.tuple vs.toArray:=by
   unfold qt;split
   ·simp at ab
   ·rfl
  rw[e];have:¬ko.toArray.size=1:=by simpa using aa
  rw[dif_neg this];exact bj.OR b
theorem ie.kA{b1:List PanicEntry}(h:ie μ [] b1):b1=[]:=wx h.1.symm
theorem ie.iN{x:PanicEntry}{c b1:List PanicEntry}(h:ie μ (x::c) b1):∃dD d,b1=dD::d/\dD.recovered=x.recovered/\dD.goexit=x.goexit/\bj μ x.v dD.v/\ie μ c d:=by
 cases b1 with
 |nil=>have:=h.1;simp at this
 |cons dD d=>
  obtain⟨a,b,e⟩:=h.2 0 x dD rfl rfl;exact⟨dD,d,rfl,a,b,e,by have:=h.1;simpa using this,fun i p q au cn=>h.2 (i+1) p q (by simpa using au) (by simpa using cn)⟩
theorem ie.nil(μ:bH):ie μ [] []:=⟨rfl,fun i e bn h=>by simp at h⟩
theorem ie.cons{x dD:PanicEntry}{c b1:List PanicEntry}(aa:dD.recovered=x.recovered)(ab:dD.goexit=x.goexit)(aK:bj μ x.v dD.v)(h:ie μ c b1):ie μ (x::c) (dD::b1):=
 ⟨by simp[h.1],fun i p q au cn=>by
  cases i with
  |zero=>simp at au cn;subst au;subst cn;exact⟨aa,ab,aK⟩
  |succ i=>exact h.2 i p q (by simpa using au) (by simpa using cn)⟩
theorem ie.append{a bA b b':List PanicEntry}(h:ie μ a bA)(k:ie μ b b'):ie μ (a++b) (bA++b'):=by
 induction a generalizing bA with
 |nil=>obtain rfl:=h.kA;exact k
 |cons x a aG=>obtain⟨dD,d,rfl,aa,ab,aK,bh⟩:=h.iN;exact .cons aa ab aK (aG bh)
theorem ie.dropWhile{a bA:List PanicEntry}(h:ie μ a bA):ie μ (a.dropWhile (!·.goexit)) (bA.dropWhile (!·.goexit)):=by
 induction a generalizing bA with
 |nil=>obtain rfl:=h.kA;exact .nil _
 |cons x a aG=>
  obtain⟨dD,d,rfl,aa,ab,aK,bh⟩:=h.iN;simp only[List.dropWhile,ab];cases x.goexit with
  |true=>exact h
  |false=>exact aG bh
theorem ai7{u jj:FrameMode}(h:oi μ u jj):oi μ (settle u) (settle jj):=by
 cases u with
 |run=>cases jj<;>first|exact h.elim|trivial
 |returning=>cases jj<;>first|exact h.elim|trivial
 |panicking c=>
  cases jj with
  |run=>exact h.elim
  |returning=>exact h.elim
  |panicking b1=>
   have h:ie μ c b1:=h;cases c with
   |nil=>obtain rfl:=h.kA;exact h
   |cons x c=>
    obtain⟨dD,d,rfl,aa,ab,aK,bh⟩:=h.iN;obtain⟨Ag,alh,alg⟩:=x;obtain⟨Pa,O',Xe⟩:=dD;simp only at aa ab aK;subst aa;subst ab;cases O' with
    |false=>exact h
    |true=>
     have aS:=bh.dropWhile;simp only[settle];cases cn:c.dropWhile (!·.goexit) with
     |nil=>rw[cn] at aS;rw[aS.kA];trivial
     |cons y r=>
      rw[cn] at aS;obtain⟨jZ,b7,e,_⟩:=aS.iN;rw[e] at aS ⊢;exact aS
theorem ail{u jj:FrameMode}{c b1:List PanicEntry}(h:oi μ u jj)(av:ie μ c b1):oi μ (raised u c) (raised jj b1):=by
 cases u with
 |run=>cases jj<;>first|exact h.elim|exact av
 |returning=>cases jj<;>first|exact h.elim|exact av
 |panicking d=>
  cases jj with
  |run=>exact h.elim
  |returning=>exact h.elim
  |panicking kO=>exact av.append h
theorem ai6{u:FrameMode}(h:u≠.run):settle u≠.run:=by
 unfold settle;split
 ·split<;>(intro q;cases q)
 ·exact h
theorem aik{u:FrameMode}{c:List PanicEntry}:raised u c≠.run:=by
 unfold raised;split<;>(intro q;cases q)
theorem aaN{E:fY}{fn:Func}{T:aX Value}{fH:List Deferred}{r:Ending×ao}(h:jN P E fn T fH .run H=some r):False:=by
 cases fH with
 |nil=>simp[jN] at h
 |cons d l=>simp[jN,Iu] at h
def wq(P:Program)(B:Nat->Prop)(w0:World)(body:FuncId->List Value->Bool->FrameMode->ao->Option (Ending×FrameMode×ao)):Prop:=
 ∀f args b8 H e my H',body f args true b8 H=some (e,my,H')->∀μ w cD,bR P B w0 μ H w->bN μ args cD->
  (callFunc f cD.toArray).run P w=.ok (.enter f cD.toArray) w/\
  ∀(c:Frame) (cs:List Frame),oi μ b8 c.mode->∃bk bb bn jj fr,bR P B w0 bk H' bb/\Step μ bk H H'/\CJ bk e bn/\oi bk my jj/\
   Steps P (lone (Frame.enter P f cD.toArray .deferred) (c::cs) w) (lone fr ({c with mode:=jj}::cs) bb)/\fr.kind=.deferred/\fr.going P bb bn
theorem aaO{E:fY}(zi:wq P B w0 E.body){fn:Func}{T:aX Value}{n:Nat}:∀(fH:List Deferred) (u:FrameMode) (H:ao) (e:Ending) (H':ao),jN P E fn T fH u H=some (e,H')->
 ∀(μ:bH) (w:World) (fr:Frame) (cs:List Frame),bR P B w0 μ H w->jK μ T n fr.tmps->rV μ fH fr.defers->oi μ u fr.mode->u≠.run->P.funcs[fr.fn]?=some fn->
 ∃bk bb bn mR,bR P B w0 bk H' bb/\Step μ bk H H'/\CJ bk e bn/\Steps P (lone fr cs w) (lone mR cs bb)/\mR.kind=fr.kind/\mR.fn=fr.fn/\mR.going P bb bn:=by
 intro fH;induction fH with
 |nil=>
  intro u H e H' he μ w fr cs h aN aS hm hu aw;cases tS:fr.defers with
  |cons d l=>rw[tS] at aS;cases aS
  |nil=>
   cases u with
   |run=>exact absurd rfl hu
   |returning=>
    have EJ:fr.mode=.returning:=by cases cn:fr.mode<;>rw[cn] at hm<;>first|rfl|exact hm.elim
    simp only[jN] at he;cases ax:pb P T H fn.results.toList with
    |none=>rw[ax] at he;cases he
    |some vs=>
     rw[ax] at he;simp only[b6,da] at he;obtain⟨rfl,rfl⟩:=he;obtain⟨v',a,b⟩:=aix h aN ax;exact⟨μ,w,.returned v',fr,h,Step.refl _ _,b,.refl P _,rfl,rfl,EJ,tS,fn,aw,a⟩
   |panicking c=>
    cases cn:fr.mode with
    |run=>rw[cn] at hm;exact hm.elim
    |returning=>rw[cn] at hm;exact hm.elim
    |panicking b1=>
     rw[cn] at hm;simp only[jN,b6,da] at he;obtain⟨rfl,rfl⟩:=he;exact⟨μ,w,.panicked b1,fr,h,Step.refl _ _,hm,.refl P _,rfl,rfl,cn,tS,fn,aw⟩
 |cons d fH aG=>
  intro u H e H' he μ w fr cs h aN aS hm hu aw;have gK:fr.mode≠.run:=fun q=>by rw[q] at hm;cases u<;>first|exact hu rfl|exact hm.elim
  cases tS:fr.defers with
  |nil=>rw[tS] at aS;cases aS
  |cons kO fm=>
   rw[tS] at aS;cases aS with
   |cons _ _ _ _ ac7 Bd=>
   simp only[jN] at he;have EL:Iu u=false:=by cases u<;>first|exact absurd rfl hu|rfl
   rw[EL,dN] at he;rcases ac7 with⟨fv,cap,dY,t1,t2,t3,t4,t5⟩|⟨r,L,t1,t2,t3⟩
   ·rw[t1] at he;simp only at he;cases ra:mj P H fv d.args.toList cap.toList with
    |none=>rw[ra] at he;cases he
    |some p=>
     obtain⟨f,args⟩:=p;rw[ra] at he;simp only at he;obtain⟨ih,bl,bF⟩:=K' (w:=w) t5 t4 ra;cases ai:E.body f args true u H with
     |none=>rw[ai] at he;cases he
     |some q=>
      obtain⟨aD,my,H1⟩:=q;rw[ai] at he;obtain⟨bE,bS⟩:=zi f args u H aD my H1 ai μ w ih h bF;have hinv:(invoke kO.target kO.args).run P w=.ok (.enter f ih.toArray) w:=by
       rw[t2];have aD:dY.toList.toArray=dY:=by simp
       have a5:kO.args.toList.toArray=kO.args:=by simp
       rw[aD,a5] at bl;rw[bl];exact bE
      have aa:=step_defer (cs:=cs) gK tS t2 hinv;obtain⟨e',d',ve,jj,amQ,bx,bT,dA,nE,yC,AJ,Dt⟩:=bS {fr with defers:=fm} cs hm;have anA:my≠.run->jj≠.run:=fun q dt=>by rw[dt] at nE;cases my<;>first|exact q rfl|exact nE.elim
      cases aD with
      |outgrown=>cases he
      |returned v=>
       cases ve with
       |returned v'=>
        simp only at he;by_cases Tu:my=.run
        ·exfalso;rw[Tu] at he
         --a running frame amz not leave
         have:settle FrameMode.run=.run:=rfl;rw[this] at he;exact(aaN (P:=P) (E:=E) he).elim
        have ab:=step_going_returned (P:=P) (c:={{fr with defers:=fm} with mode:=jj}) (cs:=cs) AJ Dt;obtain⟨iV,gS,a5,y2,b4,bX,cg,fJ,fV,gW,gJ⟩:=aG (settle my) H1 e H' he e' d' {{{fr with defers:=fm} with mode:=jj} with mode:=settle jj} cs bx (aN.mono bT.ext) (Bd.mono bT.ext) (ai7 nE) (ai6 Tu) aw;exact⟨iV,gS,a5,y2,b4,bT.trans bX,cg,(Steps.head aa (Steps.trans yC (.one ab))).trans fJ,fV,gW,gJ⟩
       |panicked c=>exact dA.elim
       |outgrown=>exact dA.elim
      |panicked ca=>
       cases ve with
       |returned v'=>exact dA.elim
       |outgrown=>exact dA.elim
       |panicked yH=>
        simp only at he;have ab:=step_going_panicked (P:=P) (c:={{fr with defers:=fm} with mode:=jj}) (cs:=cs) Dt;obtain⟨iV,gS,a5,y2,b4,bX,cg,fJ,fV,gW,gJ⟩:=aG (raised my ca) H1 e H' he e' d' {{{fr with defers:=fm} with mode:=jj} with mode:=raised jj yH} cs bx (aN.mono bT.ext) (Bd.mono bT.ext) (ail nE dA) aik aw;exact⟨iV,gS,a5,y2,b4,bT.trans bX,cg,(Steps.head aa (Steps.trans yC (.one ab))).trans fJ,fV,gW,gJ⟩
   ·rw[t1] at he;simp only at he;cases ri:H.mem.get r with
    |none=>rw[ri] at he;cases he
    |some b=>
     rw[ri] at he;cases b with
     |gh o=>
      cases o with
      |none=>cases he
      |some l=>
       cases l with
       |cons x y=>cases he
       |nil=>
        simp only at he;cases ar:Nat.ble H.bq r with
        |false=>rw[ar] at he;cases he
        |true=>
         rw[ar,cc] at he;have ar:=hC ar;cases EZ:H.upd r (.gh none) with
         |none=>rw[EZ] at he;cases he
         |some H1=>
          rw[EZ] at he;obtain⟨GV,agj,aZ,aR,bY⟩:=h.fS r L t2;rw[ri] at aZ;injection aZ with aZ;subst aZ
          cases agj with
          |deferred yN=>
           obtain⟨rfl,_⟩:=bY;obtain⟨bx,bT⟩:=h.Xb t2 ar ri (fun _ _ _ _ _ _ q=>by cases q) (fun q=>by cases q) EZ (fun _ _ _ _ _ _ q=>by cases q) (o':=.deferred none) (b':=.gh none) ⟨rfl,.inr rfl⟩;have Tt:(Instr.takeDeferred L.r).run P w=.ok [] {w with heap:=w.heap.setIfInBounds L.r (.deferred none)}:=by
            simp[Instr.takeDeferred,getObj,setObj,Sem.run,aR]
           have aa:step P (lone fr cs w)=.next (lone {fr with defers:=fm} cs {w with heap:=w.heap.setIfInBounds L.r (.deferred none)}):=by
            refine step_lone_go ?_;obtain⟨amH,amy⟩:=kO;simp only at t3;subst t3;cases EJ:fr.mode with
            |run=>exact absurd EJ gK
            |returning=>simp[stepG,unwind,EJ,tS,Tt]
            |panicking ca=>simp[stepG,unwind,EJ,tS,Tt]
           obtain⟨iV,gS,a5,y2,b4,bX,cg,fJ,fV,gW,gJ⟩:=aG u H1 e H' he μ _ {fr with defers:=fm} cs bx aN Bd hm hu aw;exact⟨iV,gS,a5,y2,b4,bT.trans bX,cg,.head aa fJ,fV,gW,gJ⟩
          |_=>exact bY.elim
     |_=>cases he
end
end
end Go.Cre
namespace Go.Cre
noncomputable section
open Go.RowKit
section
variable {P:Program}{B:Nat->Prop}{w0 w:World}{μ e' bk:bH}{H H1 H':ao}{S ba aO:aQ}{fr:Frame}{tmps:Array Value}{ds:List Deferred}{cs gv:List Frame}{k:List Item}
theorem ajo(ax:fr.roundOf=none):step P (lone (bG fr tmps ds []) cs w)=.next (lone {bG fr tmps ds [] with mode:=.returning} cs w):=step_lone_go (by simp[stepG,stepG.exec,bG,ax])
theorem ajB(ax:fr.roundOf=none):step P (lone (bG fr tmps ds (.code .ret::k)) cs w)=.next (lone {bG fr tmps ds (.code .ret::k) with mode:=.returning} cs w):=step_lone_go (by simp[stepG,stepG.exec,bG,ax])
theorem ahO:∀{l l':List Value},l.all plain=true->bN μ l l'->l'=l:=by
 intro l;induction l with
 |nil=>intro l' _ h;exact h.kA
 |cons x l aG=>
  intro l' au h;obtain⟨dD,m,rfl,aa,ab⟩:=h.iN;simp only[CO,fR] at au;rw[aG au.2 ab,bj.Ja au.1 aa]
theorem UF(fn:Func)(aa:fn.name= "internal/bytealg.MakeNoZero"\/fn.name= "internal/abi.NoEscape")(ab:fn.origin= ""):Extern.findNext fn=none:=by
 have aD:Extern.allNextRows.lookup "internal/bytealg.MakeNoZero"=none:=by kernel_rfl
 have a5:Extern.allNextRows.lookup "internal/abi.NoEscape"=none:=by kernel_rfl
 have cC:Extern.allNextRows.lookup ""=none:=by kernel_rfl
 unfold Extern.findNext;rcases aa with aa|aa<;>rw[aa,ab]<;>simp[aD,a5,cC]
theorem abd(fn:Func)(aa:fn.name= "internal/bytealg.MakeNoZero"):Extern.find fn=some (Extern.BytealgMakeNoZero.makeNoZero fn.params fn.resultTypes):=by
 have aD:Extern.allGenericRows.lookup "internal/bytealg.MakeNoZero"=none:=by kernel_rfl
 have a5:Extern.allTypedRows.lookup "internal/bytealg.MakeNoZero"=some Extern.BytealgMakeNoZero.makeNoZero:=by kernel_rfl
 unfold Extern.find;rw[aa];simp[aD,a5]
theorem abe(fn:Func)(aa:fn.name= "internal/abi.NoEscape"):Extern.find fn=some Extern.AbiNoEscape.same:=by
 have aD:Extern.allGenericRows.lookup "internal/abi.NoEscape"=none:=by kernel_rfl
 have a5:Extern.allTypedRows.lookup "internal/abi.NoEscape"=none:=by kernel_rfl
 have cC:Extern.allRows.lookup "internal/abi.NoEscape"=some Extern.AbiNoEscape.same:=by kernel_rfl
 unfold Extern.find;rw[aa];simp[aD,a5,cC]
theorem Q2{f:FuncId}{fn:Func}(aw:P.funcs[f]?=some fn)(ai:fn.body=none)(aM:(fn.name== "runtime.NumGoroutine")=false)(aa:Extern.findNext fn=none){x:Array Value->Sem Value}(ab:Extern.find fn=some x){args:Array Value}{v:Value}{bb:World}(I:(x args).run P w=.ok v bb):
 (callFunc f args).run P w=.ok (.value v) bb:=by
 have xn:¬fn.name= "runtime.NumGoroutine":=by simpa using aM
 simp[callFunc,program,Sem.run,aw,ai,xn,aa,ab,mark,I]
theorem aaK{f:FuncId}{fn:Func}{args cD:List Value}{e:Ending}(aw:P.funcs[f]?=some fn)(ai:fn.body=none)(h:bR P B w0 μ H w)(ay:bN μ args cD)(he:DN P fn f args H=some (e,H')):
 ∃v v' bb bk,e=.returned v/\(callFunc f cD.toArray).run P w=.ok (.value v') bb/\bR P B w0 bk H' bb/\Step μ bk H H'/\bj bk v v':=by
 unfold DN at he;cases au:args.all plain with
 |true=>
  rw[au,cc] at he;obtain rfl:=ahO au ay;have hzero:Lf P fn H cD fn.resultTypes.toList=some (e,H')->∃v v' bb bk,e=.returned v/\(callFunc f cD.toArray).run P w=.ok (.value v') bb/\bR P B w0 bk H' bb/\Step μ bk H H'/\bj bk v v':=by
   intro he;unfold Lf at he;split at he
   ·rename_i n t xr _;cases av:(decide (fn.name= "internal/bytealg.MakeNoZero")&&decide (fn.origin= "")&&Nat.ble n 1000000) with
    |false=>rw[av] at he;cases he
    |true=>
     rw[av,cc] at he;simp only[fR,He] at av;obtain⟨⟨aZ,aR⟩,bY⟩:=av;have bY:=hC bY;split at he
     ·rename_i el hu;cases jw:Nat.beq (P.cellsOf el) 1 with
      |false=>rw[jw] at he;cases he
      |true=>
       rw[jw,cc] at he;have jw:=eK jw;unfold RK at he;cases gj:H.nq [] el false with
       |none=>rw[gj] at he;cases he
       |some p=>
        obtain⟨id,H1⟩:=p;rw[gj] at he;simp only[b6,da] at he;obtain⟨rfl,rfl⟩:=he;obtain⟨DD,bx,bT,dA⟩:=Lib.run_makeNoZero w fn.params t el hu n (by omega);have ad9:fn.resultTypes=#[t]:=by
         apply qI;rw[xr]
        obtain⟨ct,eM,rfl⟩:=(h.drew.drew).Ny (o:=.cells DD el) (L:=⟨w.heap.size,DD.size,1⟩) gj rfl (fun f=>⟨rfl,rfl,jw,dV _,(fun q=>by cases q),(fun i v v' q=>by simp at q),⟨fun off _ a b=>by simp at b,fun _=>.inl rfl⟩⟩);refine⟨_,.slice (some ⟨w.heap.size,0,none⟩) n DD.size,_,_,rfl,?_,ct,eM,.oS _ 0 n DD.size ⟨w.heap.size,DD.size,1⟩ (bH.jB _ _ _) bT (by simp)⟩;refine Q2 aw ai (by rw[aZ];rfl) (UF fn (.inl aZ) aR) (abd fn aZ) ?_;rw[ad9];exact bx
     ·cases he
   ·cases he
  unfold RL at he;split at he
  ·rename_i v gN;cases MV:plain v with
   |false=>rw[MV] at he;cases he
   |true=>
    rw[MV,cc] at he;simp only[b6,da] at he;obtain⟨rfl,rfl⟩:=he;exact⟨v,v,w,μ,rfl,RJ gN w,h,Step.refl _ _,oO MV⟩
  ·exact hzero he
 |false=>
  rw[au,dN] at he;unfold RM at he;split at he
  ·rename_i v;cases av:(decide (fn.name= "internal/abi.NoEscape")&&decide (fn.origin= "")) with
   |false=>rw[av] at he;cases he
   |true=>
    rw[av,cc] at he;simp only[fR,He] at av;obtain⟨aZ,aR⟩:=av;simp only[b6,da] at he;obtain⟨rfl,rfl⟩:=he;obtain⟨v',l',rfl,aa,ab⟩:=ay.iN;obtain rfl:=ab.kA;refine⟨v,v',w,μ,rfl,?_,h,Step.refl _ _,aa⟩;exact Q2 aw ai (by rw[aZ];rfl) (UF fn (.inr aZ) aR) (abe fn aZ) rfl
  ·cases he
theorem aX.R0{α:Type}(a:α):∀(d n:Nat),(aX.full a d).get n=none\/(aX.full a d).get n=some a:=by
 intro d;induction d with
 |zero=>intro n;exact .inl rfl
 |succ d aG=>
  intro n;cases n with
  |zero=>exact .inr rfl
  |succ m=>
   have e:aX.full a (d+1)=.node (some a) (aX.full a d) (aX.full a d):=rfl;rw[e,aX.p1];split<;>exact aG _
theorem Yo:∀{l:List Value} {i:Nat} {T dP:aX Value},qT l i T=some dP->∀t,dP.get t=if i<=t/\t<i+l.length then l[t -i]? else T.get t:=by
 intro l;induction l with
 |nil=>intro i T dP h t;simp[qT] at h;subst h;rw[aq (by rw[CT];omega)]
 |cons v l aG=>
  intro i T dP h t;simp only[qT] at h;cases al:aX.set Cu T i v with
  |none=>rw[al] at h;cases h
  |some o3=>
   rw[al] at h;rw[aG h t,aX.Lt al];by_cases aa:i+1<=t/\t<i+1+l.length
   ·rw[aF aa,aF (by simp;omega)];have:t -i=(t -(i+1))+1:=by omega
    rw[this];rfl
   ·rw[aq aa];by_cases ab:t=i
    ·subst ab;rw[aF rfl,aF (by simp)];simp
    ·rw[aq ab,aq (by simp;omega)]
theorem abp{args cD:List Value}{n:Nat}{T:aX Value}(ay:bN μ args cD)(dK:qT args 0 (blank n)=some T):jK μ T n (cD.toArray++Array.replicate (n -cD.toArray.size) undef):=by
 refine⟨by simp;omega,fun t v h=>?_⟩;rw[Yo dK] at h;by_cases aN:t<args.length
 ·rw[aF ⟨dV _,by omega⟩,yt] at h;have Ik:t<cD.length:=by have:=ay.1;omega
  have:(cD.toArray++Array.replicate (n -cD.toArray.size) undef).getD t undef=cD[t]:=by
   simp[Po,Ik]
  rw[this];exact ay.2 t v _ h (du Ik)
 ·rw[aq (by omega)] at h;have hu:v=undef:=by
   rcases aX.R0 undef (Lg n) t with q|q
   ·unfold blank at h;rw[q] at h;cases h
   ·unfold blank at h;rw[q] at h;injection h with h;exact h.symm
  subst hu;have Ik:¬t<cD.length:=by have:=ay.1;omega
  have:(cD.toArray++Array.replicate (n -cD.toArray.size) undef).getD t undef=undef:=by
   simp only[Array.getD_eq_getD_getElem?,Po,PV,Ik,xA,Array.getElem?_replicate];split<;>rfl
  rw[this];exact bj.undef μ
theorem QN{E:fY}(xe:qJ P B w0 E.code)(zi:wq P B w0 E.body){f:FuncId}{fn:Func}{c:Code}{args cD:List Value}{b0:Bool}{b8 my:FrameMode}{e:Ending}
 (aw:P.funcs[f]?=some fn)(ai:fn.body=some c)(he:Kz P E fn c b0 b8 H (qT args 0 (blank fn.ntmps))=some (e,my,H'))
 (h:bR P B w0 μ H w)(ay:bN μ args cD)(cs:List Frame)(kx:b0=true->∃gV rest,cs=gV::rest/\oi μ b8 gV.mode):
 ∃bk bb bn mR cK,bR P B w0 bk H' bb/\Step μ bk H H'/\CJ bk e bn/\Steps P (lone (Frame.enter P f cD.toArray (if b0 then .deferred else .normal)) cs w) (lone mR cK bb)/\
  mR.kind=(if b0 then .deferred else .normal)/\mR.fn=f/\mR.going P bb bn/\jH b0 cs cK/\(b0=true->∃bx rest,cK=bx::rest/\oi bk my bx.mode):=by
 cases dK:qT args 0 (blank fn.ntmps) with
 |none=>rw[dK] at he;cases he
 |some T=>
  rw[dK] at he;have he:GZ P E fn (E.code c ⟨T,fn.ntmps,[],b0,b8,none⟩ H)=some (e,my,H'):=he
  let kv:Frame:=Frame.enter P f cD.toArray (if b0 then .deferred else .normal)
  have ke:kv=bG kv (cD.toArray++Array.replicate (fn.ntmps -cD.toArray.size) undef) [] [.code c]:=by
   simp[kv,Frame.enter,bG,aw,ai]
  have fz:hM μ ⟨T,fn.ntmps,[],b0,b8,none⟩ kv (cD.toArray++Array.replicate (fn.ntmps -cD.toArray.size) undef) [] cs:=
   ⟨abp ay dK,.nil,rfl,fun _=>rfl,(fun l q=>by cases q),kx⟩
  cases ax:E.code c ⟨T,fn.ntmps,[],b0,b8,none⟩ H with
  |none=>rw[ax] at he;cases he
  |some p=>
   obtain⟨x,ba,H1⟩:=p;rw[ax] at he;have av:=xe c _ H x ba H1 ax μ w kv _ [] cs [] (.code c) h fz (.inl rfl);rw[<-ke] at av;have xp:kv.roundOf=none:=rfl
   --sZ frame leaves
   have fin:∀(u iC:FrameMode) (e':bH) (d':World) (t1:Array Value) (d1:List Deferred) (gv:List Frame) (a':List Item),Reached P B w0 μ H ⟨T,fn.ntmps,[],b0,b8,none⟩ kv cs ba H1 e' d' t1 d1 gv->oi e' u iC->u≠.run->
    Steps P (lone kv cs w) (lone {bG kv t1 d1 a' with mode:=iC} gv d')->to ba.b8 (jN P E fn ba.T ba.ds u H1)=some (e,my,H')->
    ∃bk bb bn mR cK,bR P B w0 bk H' bb/\Step μ bk H H'/\CJ bk e bn/\Steps P (lone kv cs w) (lone mR cK bb)/\
     mR.kind=(if b0 then .deferred else .normal)/\mR.fn=f/\mR.going P bb bn/\jH b0 cs cK/\(b0=true->∃bx rest,cK=bx::rest/\oi bk my bx.mode):=by
    intro u iC e' d' t1 d1 gv a' lb hm hu c0 q';cases rh:jN P E fn ba.T ba.ds u H1 with
    |none=>rw[rh] at q';cases q'
    |some q=>
     obtain⟨a5,bZ⟩:=q;rw[rh] at q';have q':some (a5,ba.b8,bZ)=some (e,my,H'):=q';simp only[b6,da] at q';obtain⟨rfl,rfl,rfl⟩:=q';obtain⟨iV,gS,bn,y2,b4,bX,cg,fJ,fV,gW,gJ⟩:=aaO zi ba.ds u H1 a5 bZ rh e' d' {bG kv t1 d1 a' with mode:=iC} gv lb.h lb.f.t lb.f.d hm hu aw;refine⟨iV,gS,bn,y2,gv,b4,lb.ei.trans bX,cg,c0.trans fJ,fV,gW,gJ,lb.c,fun aS=>?_⟩;obtain⟨bx,rest,a,b⟩:=lb.f.b8 (lb.b0.trans aS);exact⟨bx,rest,a,b.mono bX.ext⟩
   cases x with
   |normal=>
    obtain⟨e',d',t1,d1,gv,lb,c0⟩:=av;exact fin .returning .returning e' d' t1 d1 gv [] lb trivial (fun q=>by cases q) (c0.trans (.one (ajo xp))) he
   |ret=>
    obtain⟨e',d',t1,d1,gv,a',lb,c0⟩:=av;exact fin .returning .returning e' d' t1 d1 gv (.code .ret::a') lb trivial (fun q=>by cases q) (c0.trans (.one (ajB xp))) he
   |panic ca=>
    obtain⟨e',d',t1,d1,gv,yH,a',lb,Md,c0⟩:=av;exact fin (.panicking ca) (.panicking yH) e' d' t1 d1 gv a' lb Md (fun q=>by cases q) c0 he
   |exit id=>cases he
   |goto l=>cases he
   |outgrown=>cases he
structure uP (P:Program) (gI:aX Func):Prop where
 qm:P.follows .mixedOrders=true
 gI:∀f fn,gI.get f=some fn->P.funcs[f]?=some fn
 num:∀(f:Nat) fn,P.funcs[f]?=some fn->fn.body.isSome=true->(fn.name== "runtime.NumGoroutine")=false
theorem DK{f:FuncId}{fn:Func}{c:Code}(aw:P.funcs[f]?=some fn)(ai:fn.body=some c)(aM:(fn.name== "runtime.NumGoroutine")=false)(args:Array Value)(w:World):(callFunc f args).run P w=.ok (.enter f args) w:=by
 have xn:¬fn.name= "runtime.NumGoroutine":=by simpa using aM
 simp[callFunc,program,Sem.run,aw,ai,xn]
theorem aaA{gI:aX Func}(dC:uP P gI){E:fY}(xe:qJ P B w0 E.code)(zi:wq P B w0 E.body):wq P B w0 (w3 P gI E):=by
 intro f args b8 H e my H' he μ w cD h ay;unfold w3 at he;cases pj:gI.get f with
 |none=>rw[pj] at he;cases he
 |some fn=>
  rw[pj] at he;have aw:=dC.gI f fn pj;cases ai:fn.body with
  |none=>simp only[ai] at he;cases he
  |some c=>
   simp only[ai] at he;refine⟨DK aw ai (dC.num f fn aw (by rw[ai];rfl)) _ w,fun gV cs hm=>?_⟩;obtain⟨bk,bb,bn,mR,cK,b4,bX,cg,fJ,fV,gW,gJ,pc,RZ⟩:=QN xe zi aw ai he h ay (gV::cs) (fun _=>⟨gV,cs,rfl,hm⟩);obtain⟨bx,rest,m,aZ,aR⟩:=pc;injection aZ with aZ bY;subst aZ;subst bY
   obtain⟨bT,aoT,cO,dI⟩:=RZ rfl;rw[aR] at cO;injection cO with cO fK;subst cO;subst fK
   subst aR;exact⟨bk,bb,bn,m,mR,b4,bX,cg,dI,fJ,fV,gJ⟩
theorem RB{gI:aX Func}(dC:uP P gI){E:fY}(xe:qJ P B w0 E.code)(zi:wq P B w0 E.body):o1 P B w0 (fY.call ⟨E.code,w3 P gI E⟩):=by
 intro f args H e H' he μ w cD h ay;unfold fY.call at he;cases kS:w3 P gI E f args false .run H with
 |none=>simp only[kS] at he;cases he
 |some p=>
  obtain⟨aD,WD,H1⟩:=p;simp only[kS,b6,da] at he;obtain⟨rfl,rfl⟩:=he;unfold w3 at kS;cases pj:gI.get f with
  |none=>rw[pj] at kS;cases kS
  |some fn=>
   rw[pj] at kS;have aw:=dC.gI f fn pj;cases ai:fn.body with
   |none=>
    simp only[ai] at kS;have kS:to .run (DN P fn f args H)=some (aD,WD,H1):=kS;cases I:DN P fn f args H with
    |none=>rw[I] at kS;cases kS
    |some q=>
     obtain⟨a5,bZ⟩:=q;rw[I] at kS;have kS:some (a5,FrameMode.run,bZ)=some (aD,WD,H1):=kS;simp only[b6,da] at kS;obtain⟨rfl,rfl,rfl⟩:=kS;exact .inl (aaK aw ai h ay I)
   |some c=>
    simp only[ai] at kS;refine .inr ⟨DK aw ai (dC.num f fn aw (by rw[ai];rfl)) _ w,fun cs=>?_⟩;obtain⟨bk,bb,bn,mR,cK,b4,bX,cg,fJ,fV,gW,gJ,pc,RZ⟩:=QN xe zi aw ai kS h ay cs (fun q=>by cases q);have kx:cK=cs:=pc;subst kx;refine⟨bn,bb,mR,⟨bk,b4,bX,cg⟩,?_,gW,?_⟩
    ·cases bn with
     |returned v=>exact fJ
     |panicked ca=>exact fJ
     |outgrown=>cases aD<;>exact cg.elim
    ·cases bn with
     |returned v=>obtain⟨a,b,c⟩:=gJ;exact⟨a,b,fV,c⟩
     |panicked ca=>exact gJ
     |outgrown=>trivial
end
end
end Go.Cre

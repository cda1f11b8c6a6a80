/- A part of the proof of ResumeBytes. -/
import Derived.Test.YtkmfhjilfjecmaaGreatDoorCan
import Derived.Laws.Sem
import Derived.Lib.MakeNoZero
import Derived.KernelRfl
import Derived.ChangeSame
import Derived.Lib.LaidTab
set_option linter.unusedVariables false
set_option linter.unusedSimpArgs false
namespace Go.Cre
noncomputable section
open Go.RowKit
section
variable {P:Program}{B:Nat->Prop}{w0 w:World}{μ f' bD:bY}{H H1 H':aA}{S bn aS:bh}{fr:Frame}{tmps:Array Value}{ds:List Deferred}{cs gl:List Frame}
def I0 (tmps:Array Value):ResultVar->Sem Value
 |.tmp t=>pure (tmps.getD t undef)
 |.cell a t=>do loadVar t (<-asAddr (tmps.getD a undef))
theorem ae4(h:b9 P B w0 μ H w){T:bg Value}{n:Nat}(aB:lD μ T n tmps):∀{l:List ResultVar} {vs:List Value},qd P T H l=some vs->
 ∃kH,(l.mapM (I0 tmps)).run P w=.ok kH w/\b0 μ vs kH:=by
 intro l;induction l with
 |nil=>intro vs he;simp[qd] at he;subst he;exact⟨[],by simp,b0.nil _⟩
 |cons x l aI=>
  intro vs he;cases x with
  |tmp t=>
   simp only[qd] at he;cases dn:T.get t with
   |none=>rw[dn] at he;cases he
   |some u=>
    rw[dn] at he;cases av:qd P T H l with
    |none=>rw[av] at he;cases he
    |some r=>
     rw[av] at he;injection he with he;subst he
     obtain⟨kH,a,b⟩:=aI av;refine⟨tmps.getD t undef::kH,?_,b0.cons (aB.2 t u dn) b⟩;rw[SH];have e:I0 tmps (.tmp t)=pure (tmps.getD t undef):=rfl;rw[e];simp only[Sem.run_bind,Sem.run_pure,Result.andThen,a]
  |cell c t=>
   simp only[qd] at he;cases dn:T.get c with
   |none=>rw[dn] at he;cases he
   |some u=>
    rw[dn] at he;simp only at he;cases ay:AZ P H t u with
    |none=>rw[ay] at he;cases he
    |some v=>
     rw[ay] at he;cases av:qd P T H l with
     |none=>rw[av] at he;cases he
     |some r=>
      rw[av] at he;injection he with he;subst he
      obtain⟨kH,a,b⟩:=aI av;have hu:=aB.2 c u dn;unfold AZ at ay;cases u with
      |pointer p=>
       cases p with
       |none=>cases ay
       |some p=>
        obtain⟨id,off,L,rfl,bS,c8⟩:=hu.pf;simp only at ay;obtain⟨v',aa,ae⟩:=UQ h bS ay;refine⟨v'::kH,?_,b0.cons ae b⟩;rw[SH];have e:(I0 tmps (.cell c t)).run P w=.ok v' w:=by
         show(do loadVar t (<-asAddr (tmps.getD c undef)):Sem Value).run P w=_;rw[c8];simp[asAddr,aa]
        simp only[Sem.run_bind,e,Result.andThen,a,Sem.run_pure]
      |_=>cases ay
theorem anF(h:b9 P B w0 μ H w){T:bg Value}{n:Nat}(aB:lD μ T n tmps){fn:Func}{vs:List Value}(he:qd P T H fn.results.toList=some vs):
 ∃v',(results fn tmps).run P w=.ok v' w/\bB μ (qC vs) v':=by
 obtain⟨kH,a,b⟩:=ae4 h aB he;have hm:(fn.results.mapM (I0 tmps)).run P w=.ok kH.toArray w:=by
  rw[aaP];simp[a]
 have aw:results fn tmps=(do let vs <-fn.results.mapM (I0 tmps);pure (if h:vs.size=1 then vs[0] else .tuple vs)):=by
  unfold results;congr 2
 rw[aw];simp only[Sem.run_bind,hm,Result.andThen,Sem.run_pure];refine⟨_,rfl,?_⟩;by_cases aa:kH.length=1
 ·have ae:vs.length=1:=b.1.trans aa;obtain⟨v,rfl⟩:=SG.1 ae;obtain⟨v',rfl⟩:=SG.1 aa;simpa[qC] using b.2 0 v v' rfl rfl
 ·have ae:vs.length≠1:=fun q=>aa (b.1.symm.trans q);have e:qC vs=.tuple vs.toArray:=by
   unfold qC;split
   ·simp at ae
   ·rfl
  rw[e];have:¬kH.toArray.size=1:=by simpa using aa
  rw[dif_neg this];exact bB.RP b
theorem iJ.lm{cd:List PanicEntry}(h:iJ μ [] cd):cd=[]:=yA h.1.symm
theorem iJ.jP{x:PanicEntry}{c cd:List PanicEntry}(h:iJ μ (x::c) cd):∃dR d,cd=dR::d/\dR.recovered=x.recovered/\dR.goexit=x.goexit/\bB μ x.v dR.v/\iJ μ c d:=by
 cases cd with
 |nil=>have:=h.1;simp at this
 |cons dR d=>
  obtain⟨a,b,e⟩:=h.2 0 x dR rfl rfl;exact⟨dR,d,rfl,a,b,e,by have:=h.1;simpa using this,fun i p q au c8=>h.2 (i+1) p q (by simpa using au) (by simpa using c8)⟩
theorem iJ.nil(μ:bY):iJ μ [] []:=⟨rfl,fun i e bz h=>by simp at h⟩
theorem iJ.cons{x dR:PanicEntry}{c cd:List PanicEntry}(aa:dR.recovered=x.recovered)(ae:dR.goexit=x.goexit)(aF:bB μ x.v dR.v)(h:iJ μ c cd):iJ μ (x::c) (dR::cd):=
 ⟨by simp[h.1],fun i p q au c8=>by
  cases i with
  |zero=>simp at au c8;subst au;subst c8;exact⟨aa,ae,aF⟩
  |succ i=>exact h.2 i p q (by simpa using au) (by simpa using c8)⟩
theorem iJ.append{a bV b b':List PanicEntry}(h:iJ μ a bV)(k:iJ μ b b'):iJ μ (a++b) (bV++b'):=by
 induction a generalizing bV with
 |nil=>obtain rfl:=h.lm;exact k
 |cons x a aI=>obtain⟨dR,d,rfl,aa,ae,aF,bo⟩:=h.jP;exact .cons aa ae aF (aI bo)
theorem iJ.dropWhile{a bV:List PanicEntry}(h:iJ μ a bV):iJ μ (a.dropWhile (!·.goexit)) (bV.dropWhile (!·.goexit)):=by
 induction a generalizing bV with
 |nil=>obtain rfl:=h.lm;exact .nil _
 |cons x a aI=>
  obtain⟨dR,d,rfl,aa,ae,aF,bo⟩:=h.jP;simp only[List.dropWhile,ae];cases x.goexit with
  |true=>exact h
  |false=>exact aI bo
theorem aoc{u im:FrameMode}(h:pn μ u im):pn μ (settle u) (settle im):=by
 cases u with
 |run=>cases im<;>first|exact h.elim|trivial
 |returning=>cases im<;>first|exact h.elim|trivial
 |panicking c=>
  cases im with
  |run=>exact h.elim
  |returning=>exact h.elim
  |panicking cd=>
   have h:iJ μ c cd:=h;cases c with
   |nil=>obtain rfl:=h.lm;exact h
   |cons x c=>
    obtain⟨dR,d,rfl,aa,ae,aF,bo⟩:=h.jP;obtain⟨CP,aqm,aqj⟩:=x;obtain⟨R6,R5,aaC⟩:=dR;simp only at aa ae aF;subst aa;subst ae;cases R5 with
    |false=>exact h
    |true=>
     have aV:=bo.dropWhile;simp only[settle];cases c8:c.dropWhile (!·.goexit) with
     |nil=>rw[c8] at aV;rw[aV.lm];trivial
     |cons y r=>
      rw[c8] at aV;obtain⟨iQ,dx,e,_⟩:=aV.jP;rw[e] at aV ⊢;exact aV
theorem ans{u im:FrameMode}{c cd:List PanicEntry}(h:pn μ u im)(aC:iJ μ c cd):pn μ (raised u c) (raised im cd):=by
 cases u with
 |run=>cases im<;>first|exact h.elim|exact aC
 |returning=>cases im<;>first|exact h.elim|exact aC
 |panicking d=>
  cases im with
  |run=>exact h.elim
  |returning=>exact h.elim
  |panicking hB=>exact aC.append h
theorem aob{u:FrameMode}(h:u≠.run):settle u≠.run:=by
 unfold settle;split
 ·split<;>(intro q;cases q)
 ·exact h
theorem anr{u:FrameMode}{c:List PanicEntry}:raised u c≠.run:=by
 unfold raised;split<;>(intro q;cases q)
theorem aeV{E:gZ}{fn:Func}{T:bg Value}{h7:List Deferred}{r:Ending×aA}(h:iM P E fn T h7 .run H=some r):False:=by
 cases h7 with
 |nil=>simp[iM] at h
 |cons d l=>simp[iM,Ln] at h
def uV(P:Program)(B:Nat->Prop)(w0:World)(body:FuncId->List Value->Bool->FrameMode->aA->Option (Ending×FrameMode×aA)):Prop:=
 ∀f args bF H e gh H',body f args true bF H=some (e,gh,H')->∀μ w cz,b9 P B w0 μ H w->b0 μ args cz->
  (callFunc f cz.toArray).run P w=.ok (.enter f cz.toArray) w/\
  ∀(c:Frame) (cs:List Frame),pn μ bF c.mode->∃bD br bz im fr,b9 P B w0 bD H' br/\Step μ bD H H'/\FB bD e bz/\pn bD gh im/\
   Steps P (lone (Frame.enter P f cz.toArray .deferred) (c::cs) w) (lone fr ({c with mode:=im}::cs) br)/\fr.kind=.deferred/\fr.going P br bz
theorem aeW{E:gZ}(Bt:uV P B w0 E.body){fn:Func}{T:bg Value}{n:Nat}:∀(h7:List Deferred) (u:FrameMode) (H:aA) (e:Ending) (H':aA),iM P E fn T h7 u H=some (e,H')->
 ∀(μ:bY) (w:World) (fr:Frame) (cs:List Frame),b9 P B w0 μ H w->lD μ T n fr.tmps->yx μ h7 fr.defers->pn μ u fr.mode->u≠.run->P.funcs[fr.fn]?=some fn->
 ∃bD br bz nL,b9 P B w0 bD H' br/\Step μ bD H H'/\FB bD e bz/\Steps P (lone fr cs w) (lone nL cs br)/\nL.kind=fr.kind/\nL.fn=fr.fn/\nL.going P br bz:=by
 intro h7;induction h7 with
 |nil=>
  intro u H e H' he μ w fr cs h aB aV hm hu aD;cases ud:fr.defers with
  |cons d l=>rw[ud] at aV;cases aV
  |nil=>
   cases u with
   |run=>exact absurd rfl hu
   |returning=>
    have HD:fr.mode=.returning:=by cases c8:fr.mode<;>rw[c8] at hm<;>first|rfl|exact hm.elim
    simp only[iM] at he;cases aw:qd P T H fn.results.toList with
    |none=>rw[aw] at he;cases he
    |some vs=>
     rw[aw] at he;simp only[cp,dB] at he;obtain⟨rfl,rfl⟩:=he;obtain⟨v',a,b⟩:=anF h aB aw;exact⟨μ,w,.returned v',fr,h,Step.refl _ _,b,.refl P _,rfl,rfl,HD,ud,fn,aD,a⟩
   |panicking c=>
    cases c8:fr.mode with
    |run=>rw[c8] at hm;exact hm.elim
    |returning=>rw[c8] at hm;exact hm.elim
    |panicking cd=>
     rw[c8] at hm;simp only[iM,cp,dB] at he;obtain⟨rfl,rfl⟩:=he;exact⟨μ,w,.panicked cd,fr,h,Step.refl _ _,hm,.refl P _,rfl,rfl,c8,ud,fn,aD⟩
 |cons d h7 aI=>
  intro u H e H' he μ w fr cs h aB aV hm hu aD;have iB:fr.mode≠.run:=fun q=>by rw[q] at hm;cases u<;>first|exact hu rfl|exact hm.elim
  cases ud:fr.defers with
  |nil=>rw[ud] at aV;cases aV
  |cons hB e8=>
   rw[ud] at aV;cases aV with
   |cons _ _ _ _ ahP xF=>
   simp only[iM] at he;have HF:Ln u=false:=by cases u<;>first|exact absurd rfl hu|rfl
   rw[HF,dT] at he;rcases ahP with⟨fv,cap,eh,t1,t2,t3,t4,t5⟩|⟨r,L,t1,t2,t3⟩
   ·rw[t1] at he;simp only at he;cases ql:l7 P H fv d.args.toList cap.toList with
    |none=>rw[ql] at he;cases he
    |some p=>
     obtain⟨f,args⟩:=p;rw[ql] at he;simp only at he;obtain⟨jJ,bm,a2⟩:=UP (w:=w) t5 t4 ql;cases ap:E.body f args true u H with
     |none=>rw[ap] at he;cases he
     |some q=>
      obtain⟨aL,gh,H1⟩:=q;rw[ap] at he;obtain⟨b1,b2⟩:=Bt f args u H aL gh H1 ap μ w jJ h a2;have hinv:(invoke hB.target hB.args).run P w=.ok (.enter f jJ.toArray) w:=by
       rw[t2];have aL:eh.toList.toArray=eh:=by simp
       have bk:hB.args.toList.toArray=hB.args:=by simp
       rw[aL,bk] at bm;rw[bm];exact b1
      have aa:=step_defer (cs:=cs) iB ud t2 hinv;obtain⟨f',eK,xg,im,asq,c1,c2,c3,p',TW,qa,vk⟩:=b2 {fr with defers:=e8} cs hm;have ato:gh≠.run->im≠.run:=fun q du=>by rw[du] at p';cases gh<;>first|exact q rfl|exact p'.elim
      cases aL with
      |outgrown=>cases he
      |returned v=>
       cases xg with
       |returned v'=>
        simp only at he;by_cases WN:gh=.run
        ·exfalso;rw[WN] at he
         --a running frame ar1 not leave
         have:settle FrameMode.run=.run:=rfl;rw[this] at he;exact(aeV (P:=P) (E:=E) he).elim
        have ae:=step_going_returned (P:=P) (c:={{fr with defers:=e8} with mode:=im}) (cs:=cs) qa vk;obtain⟨r',hi,bk,A3,g1,g2,g3,g4,g5,g6,g7⟩:=aI (settle gh) H1 e H' he f' eK {{{fr with defers:=e8} with mode:=im} with mode:=settle im} cs c1 (aB.mono c2.ext) (xF.mono c2.ext) (aoc p') (aob WN) aD;exact⟨r',hi,bk,A3,g1,c2.trans g2,g3,(Steps.head aa (Steps.trans TW (.one ae))).trans g4,g5,g6,g7⟩
       |panicked c=>exact c3.elim
       |outgrown=>exact c3.elim
      |panicked bK=>
       cases xg with
       |returned v'=>exact c3.elim
       |outgrown=>exact c3.elim
       |panicked AO=>
        simp only at he;have ae:=step_going_panicked (P:=P) (c:={{fr with defers:=e8} with mode:=im}) (cs:=cs) vk;obtain⟨r',hi,bk,A3,g1,g2,g3,g4,g5,g6,g7⟩:=aI (raised gh bK) H1 e H' he f' eK {{{fr with defers:=e8} with mode:=im} with mode:=raised im AO} cs c1 (aB.mono c2.ext) (xF.mono c2.ext) (ans p' c3) anr aD;exact⟨r',hi,bk,A3,g1,c2.trans g2,g3,(Steps.head aa (Steps.trans TW (.one ae))).trans g4,g5,g6,g7⟩
   ·rw[t1] at he;simp only at he;cases oh:H.mem.get r with
    |none=>rw[oh] at he;cases he
    |some b=>
     rw[oh] at he;cases b with
     |iW o=>
      cases o with
      |none=>cases he
      |some l=>
       cases l with
       |cons x y=>cases he
       |nil=>
        simp only at he;cases aq:Nat.ble H.bW r with
        |false=>rw[aq] at he;cases he
        |true=>
         rw[aq,b7] at he;have aq:=hV aq;cases HX:H.upd r (.iW none) with
         |none=>rw[HX] at he;cases he
         |some H1=>
          rw[HX] at he;obtain⟨Dc,Q2,bb,a7,b8⟩:=h.fT r L t2;rw[oh] at bb;injection bb with bb;subst bb
          cases Q2 with
          |deferred AV=>
           obtain⟨rfl,_⟩:=b8;obtain⟨c1,c2⟩:=h.aqa t2 aq oh (fun _ _ _ _ _ _ q=>by cases q) (fun q=>by cases q) HX (fun _ _ _ _ _ _ q=>by cases q) (o':=.deferred none) (b':=.iW none) ⟨rfl,.inr rfl⟩;have WL:(Instr.takeDeferred L.r).run P w=.ok [] {w with heap:=w.heap.setIfInBounds L.r (.deferred none)}:=by
            simp[Instr.takeDeferred,getObj,setObj,Sem.run,a7]
           have aa:step P (lone fr cs w)=.next (lone {fr with defers:=e8} cs {w with heap:=w.heap.setIfInBounds L.r (.deferred none)}):=by
            refine step_lone_go ?_;obtain⟨ar8,ar0⟩:=hB;simp only at t3;subst t3;cases HD:fr.mode with
            |run=>exact absurd HD iB
            |returning=>simp[stepG,unwind,HD,ud,WL]
            |panicking bK=>simp[stepG,unwind,HD,ud,WL]
           obtain⟨r',hi,bk,A3,g1,g2,g3,g4,g5,g6,g7⟩:=aI u H1 e H' he μ _ {fr with defers:=e8} cs c1 aB xF hm hu aD;exact⟨r',hi,bk,A3,g1,c2.trans g2,g3,.head aa g4,g5,g6,g7⟩
          |_=>exact b8.elim
     |_=>cases he
end
end
end Go.Cre
namespace Go.Cre
noncomputable section
open Go.RowKit
section
variable {P:Program}{B:Nat->Prop}{w0 w:World}{μ f' bD:bY}{H H1 H':aA}{S bn aS:bh}{fr:Frame}{tmps:Array Value}{ds:List Deferred}{cs gl:List Frame}{k:List Item}
theorem aoq(aw:fr.roundOf=none):step P (lone (ck fr tmps ds []) cs w)=.next (lone {ck fr tmps ds [] with mode:=.returning} cs w):=step_lone_go (by simp[stepG,stepG.exec,ck,aw])
theorem aox(aw:fr.roundOf=none):step P (lone (ck fr tmps ds (.code .ret::k)) cs w)=.next (lone {ck fr tmps ds (.code .ret::k) with mode:=.returning} cs w):=step_lone_go (by simp[stepG,stepG.exec,ck,aw])
theorem amV:∀{l l':List Value},l.all plain=true->b0 μ l l'->l'=l:=by
 intro l;induction l with
 |nil=>intro l' _ h;exact h.lm
 |cons x l aI=>
  intro l' au h;obtain⟨dR,m,rfl,aa,ae⟩:=h.jP;simp only[sb,fS] at au;rw[aI au.2 ae,bB.Cj au.1 aa]
theorem XX(fn:Func)(aa:fn.name= "internal/bytealg.MakeNoZero"\/fn.name= "internal/abi.NoEscape")(ae:fn.origin= ""):Extern.findNext fn=none:=by
 have aL:Extern.allNextRows.lookup "internal/bytealg.MakeNoZero"=none:=by kernel_rfl
 have bk:Extern.allNextRows.lookup "internal/abi.NoEscape"=none:=by kernel_rfl
 have cG:Extern.allNextRows.lookup ""=none:=by kernel_rfl
 unfold Extern.findNext;rcases aa with aa|aa<;>rw[aa,ae]<;>simp[aL,bk,cG]
theorem afl(fn:Func)(aa:fn.name= "internal/bytealg.MakeNoZero"):Extern.find fn=some (Extern.BytealgMakeNoZero.makeNoZero fn.params fn.resultTypes):=by
 have aL:Extern.allGenericRows.lookup "internal/bytealg.MakeNoZero"=none:=by kernel_rfl
 have bk:Extern.allTypedRows.lookup "internal/bytealg.MakeNoZero"=some Extern.BytealgMakeNoZero.makeNoZero:=by kernel_rfl
 unfold Extern.find;rw[aa];simp[aL,bk]
theorem afm(fn:Func)(aa:fn.name= "internal/abi.NoEscape"):Extern.find fn=some Extern.AbiNoEscape.same:=by
 have aL:Extern.allGenericRows.lookup "internal/abi.NoEscape"=none:=by kernel_rfl
 have bk:Extern.allTypedRows.lookup "internal/abi.NoEscape"=none:=by kernel_rfl
 have cG:Extern.allRows.lookup "internal/abi.NoEscape"=some Extern.AbiNoEscape.same:=by kernel_rfl
 unfold Extern.find;rw[aa];simp[aL,bk,cG]
theorem T7{f:FuncId}{fn:Func}(aD:P.funcs[f]?=some fn)(ap:fn.body=none)(aP:(fn.name== "runtime.NumGoroutine")=false)(aa:Extern.findNext fn=none){x:Array Value->Sem Value}(ae:Extern.find fn=some x){args:Array Value}{v:Value}{br:World}(U:(x args).run P w=.ok v br):
 (callFunc f args).run P w=.ok (.value v) br:=by
 have zn:¬fn.name= "runtime.NumGoroutine":=by simpa using aP
 simp[callFunc,program,Sem.run,aD,ap,zn,aa,ae,mark,U]
theorem aeS{f:FuncId}{fn:Func}{args cz:List Value}{e:Ending}(aD:P.funcs[f]?=some fn)(ap:fn.body=none)(h:b9 P B w0 μ H w)(av:b0 μ args cz)(he:AX P fn f args H=some (e,H')):
 ∃v v' br bD,e=.returned v/\(callFunc f cz.toArray).run P w=.ok (.value v') br/\b9 P B w0 bD H' br/\Step μ bD H H'/\bB bD v v':=by
 unfold AX at he;cases au:args.all plain with
 |true=>
  rw[au,b7] at he;obtain rfl:=amV au av;have hzero:N4 P fn H cz fn.resultTypes.toList=some (e,H')->∃v v' br bD,e=.returned v/\(callFunc f cz.toArray).run P w=.ok (.value v') br/\b9 P B w0 bD H' br/\Step μ bD H H'/\bB bD v v':=by
   intro he;unfold N4 at he;split at he
   ·rename_i n t P2 _;cases aC:(decide (fn.name= "internal/bytealg.MakeNoZero")&&decide (fn.origin= "")&&Nat.ble n 1000000) with
    |false=>rw[aC] at he;cases he
    |true=>
     rw[aC,b7] at he;simp only[fS,GB] at aC;obtain⟨⟨bb,a7⟩,b8⟩:=aC;have b8:=hV b8;split at he
     ·rename_i el hu;cases lf:Nat.beq (P.cellsOf el) 1 with
      |false=>rw[lf] at he;cases he
      |true=>
       rw[lf,b7] at he;have lf:=eO lf;unfold UW at he;cases fB:H.nl [] el false with
       |none=>rw[fB] at he;cases he
       |some p=>
        obtain⟨id,H1⟩:=p;rw[fB] at he;simp only[cp,dB] at he;obtain⟨rfl,rfl⟩:=he;obtain⟨AT,c1,c2,c3⟩:=Lib.run_makeNoZero w fn.params t el hu n (by omega);have ajy:fn.resultTypes=#[t]:=by
         apply tf;rw[P2]
        obtain⟨m1,m2,rfl⟩:=(h.drew.drew).QG (o:=.cells AT el) (L:=⟨w.heap.size,AT.size,1⟩) fB rfl (fun f=>⟨rfl,rfl,lf,cy _,(fun q=>by cases q),(fun i v v' q=>by simp at q),⟨fun off _ a b=>by simp at b,fun _=>.inl rfl⟩⟩);refine⟨_,.slice (some ⟨w.heap.size,0,none⟩) n AT.size,_,_,rfl,?_,m1,m2,.pW _ 0 n AT.size ⟨w.heap.size,AT.size,1⟩ (bY.kW _ _ _) c2 (by simp)⟩;refine T7 aD ap (by rw[bb];rfl) (XX fn (.inl bb) a7) (afl fn bb) ?_;rw[ajy];exact c1
     ·cases he
   ·cases he
  unfold UX at he;split at he
  ·rename_i v h0;cases En:plain v with
   |false=>rw[En] at he;cases he
   |true=>
    rw[En,b7] at he;simp only[cp,dB] at he;obtain⟨rfl,rfl⟩:=he;exact⟨v,v,w,μ,rfl,UU h0 w,h,Step.refl _ _,qG En⟩
  ·exact hzero he
 |false=>
  rw[au,dT] at he;unfold N5 at he;split at he
  ·rename_i v;cases aC:(decide (fn.name= "internal/abi.NoEscape")&&decide (fn.origin= "")) with
   |false=>rw[aC] at he;cases he
   |true=>
    rw[aC,b7] at he;simp only[fS,GB] at aC;obtain⟨bb,a7⟩:=aC;simp only[cp,dB] at he;obtain⟨rfl,rfl⟩:=he;obtain⟨v',l',rfl,aa,ae⟩:=av.jP;obtain rfl:=ae.lm;refine⟨v,v',w,μ,rfl,?_,h,Step.refl _ _,aa⟩;exact T7 aD ap (by rw[bb];rfl) (XX fn (.inr bb) a7) (afm fn bb) rfl
  ·cases he
theorem bg.Va{α:Type}(a:α):∀(d n:Nat),(bg.full a d).get n=none\/(bg.full a d).get n=some a:=by
 intro d;induction d with
 |zero=>intro n;exact .inl rfl
 |succ d aI=>
  intro n;cases n with
  |zero=>exact .inr rfl
  |succ m=>
   have e:bg.full a (d+1)=.node (some a) (bg.full a d) (bg.full a d):=rfl;rw[e,bg.rq];split<;>exact aI _
theorem abG:∀{l:List Value} {i:Nat} {T eR:bg Value},n2 l i T=some eR->∀t,eR.get t=if i<=t/\t<i+l.length then l[t -i]? else T.get t:=by
 intro l;induction l with
 |nil=>intro i T eR h t;simp[n2] at h;subst h;rw[an (by rw[Ax];omega)]
 |cons v l aI=>
  intro i T eR h t;simp only[n2] at h;cases hs:bg.set Mv T i v with
  |none=>rw[hs] at h;cases h
  |some C6=>
   rw[hs] at h;rw[aI h t,bg.Vc hs];by_cases aa:i+1<=t/\t<i+1+l.length
   ·rw[aE aa,aE (by simp;omega)];have:t -i=(t -(i+1))+1:=by omega
    rw[this];rfl
   ·rw[an aa];by_cases ae:t=i
    ·subst ae;rw[aE rfl,aE (by simp)];simp
    ·rw[an ae,an (by simp;omega)]
theorem afy{args cz:List Value}{n:Nat}{T:bg Value}(av:b0 μ args cz)(dn:n2 args 0 (blank n)=some T):lD μ T n (cz.toArray++Array.replicate (n -cz.toArray.size) undef):=by
 refine⟨by simp;omega,fun t v h=>?_⟩;rw[abG dn] at h;by_cases aB:t<args.length
 ·rw[aE ⟨cy _,by omega⟩,Az] at h;have zt:t<cz.length:=by have:=av.1;omega
  have:(cz.toArray++Array.replicate (n -cz.toArray.size) undef).getD t undef=cz[t]:=by
   simp[Si,zt]
  rw[this];exact av.2 t v _ h (dj zt)
 ·rw[an (by omega)] at h;have hu:v=undef:=by
   rcases bg.Va undef (N8 n) t with q|q
   ·unfold blank at h;rw[q] at h;cases h
   ·unfold blank at h;rw[q] at h;injection h with h;exact h.symm
  subst hu;have zt:¬t<cz.length:=by have:=av.1;omega
  have:(cz.toArray++Array.replicate (n -cz.toArray.size) undef).getD t undef=undef:=by
   simp only[Array.getD_eq_getD_getElem?,Si,SM,zt,EA,Array.getElem?_replicate];split<;>rfl
  rw[this];exact bB.undef μ
theorem TC{E:gZ}(D9:sa P B w0 E.code)(Bt:uV P B w0 E.body){f:FuncId}{fn:Func}{c:Code}{args cz:List Value}{b5:Bool}{bF gh:FrameMode}{e:Ending}
 (aD:P.funcs[f]?=some fn)(ap:fn.body=some c)(he:Ga P E fn c b5 bF H (n2 args 0 (blank fn.ntmps))=some (e,gh,H'))
 (h:b9 P B w0 μ H w)(av:b0 μ args cz)(cs:List Frame)(gU:b5=true->∃dS rest,cs=dS::rest/\pn μ bF dS.mode):
 ∃bD br bz nL cS,b9 P B w0 bD H' br/\Step μ bD H H'/\FB bD e bz/\Steps P (lone (Frame.enter P f cz.toArray (if b5 then .deferred else .normal)) cs w) (lone nL cS br)/\
  nL.kind=(if b5 then .deferred else .normal)/\nL.fn=f/\nL.going P br bz/\kZ b5 cs cS/\(b5=true->∃c1 rest,cS=c1::rest/\pn bD gh c1.mode):=by
 cases dn:n2 args 0 (blank fn.ntmps) with
 |none=>rw[dn] at he;cases he
 |some T=>
  rw[dn] at he;have he:w2 P E fn (E.code c ⟨T,fn.ntmps,[],b5,bF,none⟩ H)=some (e,gh,H'):=he
  let tN:Frame:=Frame.enter P f cz.toArray (if b5 then .deferred else .normal)
  have mc:tN=ck tN (cz.toArray++Array.replicate (fn.ntmps -cz.toArray.size) undef) [] [.code c]:=by
   simp[tN,Frame.enter,ck,aD,ap]
  have fJ:iS μ ⟨T,fn.ntmps,[],b5,bF,none⟩ tN (cz.toArray++Array.replicate (fn.ntmps -cz.toArray.size) undef) [] cs:=
   ⟨afy av dn,.nil,rfl,fun _=>rfl,(fun l q=>by cases q),gU⟩
  cases aw:E.code c ⟨T,fn.ntmps,[],b5,bF,none⟩ H with
  |none=>rw[aw] at he;cases he
  |some p=>
   obtain⟨x,bn,H1⟩:=p;rw[aw] at he;have aC:=D9 c _ H x bn H1 aw μ w tN _ [] cs [] (.code c) h fJ (.inl rfl);rw[<-mc] at aC;have qs:tN.roundOf=none:=rfl
   --Fi frame leaves
   have fin:∀(u jB:FrameMode) (f':bY) (eK:World) (t1:Array Value) (d1:List Deferred) (gl:List Frame) (bl:List Item),Reached P B w0 μ H ⟨T,fn.ntmps,[],b5,bF,none⟩ tN cs bn H1 f' eK t1 d1 gl->pn f' u jB->u≠.run->
    Steps P (lone tN cs w) (lone {ck tN t1 d1 bl with mode:=jB} gl eK)->sq bn.bF (iM P E fn bn.T bn.ds u H1)=some (e,gh,H')->
    ∃bD br bz nL cS,b9 P B w0 bD H' br/\Step μ bD H H'/\FB bD e bz/\Steps P (lone tN cs w) (lone nL cS br)/\
     nL.kind=(if b5 then .deferred else .normal)/\nL.fn=f/\nL.going P br bz/\kZ b5 cs cS/\(b5=true->∃c1 rest,cS=c1::rest/\pn bD gh c1.mode):=by
    intro u jB f' eK t1 d1 gl bl lQ hm hu dw Bv;cases sQ:iM P E fn bn.T bn.ds u H1 with
    |none=>rw[sQ] at Bv;cases Bv
    |some q=>
     obtain⟨bk,cv⟩:=q;rw[sQ] at Bv;have Bv:some (bk,bn.bF,cv)=some (e,gh,H'):=Bv;simp only[cp,dB] at Bv;obtain⟨rfl,rfl,rfl⟩:=Bv;obtain⟨r',hi,bz,A3,g1,g2,g3,g4,g5,g6,g7⟩:=aeW Bt bn.ds u H1 bk cv sQ f' eK {ck tN t1 d1 bl with mode:=jB} gl lQ.h lQ.f.t lQ.f.d hm hu aD;refine⟨r',hi,bz,A3,gl,g1,lQ.gD.trans g2,g3,dw.trans g4,g5,g6,g7,lQ.c,fun aV=>?_⟩;obtain⟨c1,rest,a,b⟩:=lQ.f.bF (lQ.b5.trans aV);exact⟨c1,rest,a,b.mono g2.ext⟩
   cases x with
   |normal=>
    obtain⟨f',eK,t1,d1,gl,lQ,dw⟩:=aC;exact fin .returning .returning f' eK t1 d1 gl [] lQ trivial (fun q=>by cases q) (dw.trans (.one (aoq qs))) he
   |ret=>
    obtain⟨f',eK,t1,d1,gl,bl,lQ,dw⟩:=aC;exact fin .returning .returning f' eK t1 d1 gl (.code .ret::bl) lQ trivial (fun q=>by cases q) (dw.trans (.one (aox qs))) he
   |panic bK=>
    obtain⟨f',eK,t1,d1,gl,AO,bl,lQ,O1,dw⟩:=aC;exact fin (.panicking bK) (.panicking AO) f' eK t1 d1 gl bl lQ O1 (fun q=>by cases q) dw he
   |exit id=>cases he
   |goto l=>cases he
   |outgrown=>cases he
structure to (P:Program) (fq:bg Func):Prop where
 rU:P.follows .mixedOrders=true
 fq:∀f fn,fq.get f=some fn->P.funcs[f]?=some fn
 num:∀(f:Nat) fn,P.funcs[f]?=some fn->fn.body.isSome=true->(fn.name== "runtime.NumGoroutine")=false
theorem DL{f:FuncId}{fn:Func}{c:Code}(aD:P.funcs[f]?=some fn)(ap:fn.body=some c)(aP:(fn.name== "runtime.NumGoroutine")=false)(args:Array Value)(w:World):(callFunc f args).run P w=.ok (.enter f args) w:=by
 have zn:¬fn.name= "runtime.NumGoroutine":=by simpa using aP
 simp[callFunc,program,Sem.run,aD,ap,zn]
theorem UL{fq:bg Func}(dt:to P fq){E:gZ}(D9:sa P B w0 E.code)(Bt:uV P B w0 E.body):uV P B w0 (sB P fq E):=by
 intro f args bF H e gh H' he μ w cz h av;unfold sB at he;cases qm:fq.get f with
 |none=>rw[qm] at he;cases he
 |some fn=>
  rw[qm] at he;have aD:=dt.fq f fn qm;cases ap:fn.body with
  |none=>simp only[ap] at he;cases he
  |some c=>
   simp only[ap] at he;refine⟨DL aD ap (dt.num f fn aD (by rw[ap];rfl)) _ w,fun dS cs hm=>?_⟩;obtain⟨bD,br,bz,nL,cS,g1,g2,g3,g4,g5,g6,g7,g8,g9⟩:=TC D9 Bt aD ap he h av (dS::cs) (fun _=>⟨dS,cs,rfl,hm⟩);obtain⟨c1,rest,m,bb,a7⟩:=g8;injection bb with bb b8;subst bb;subst b8
   obtain⟨c2,au4,cO,ed⟩:=g9 rfl;rw[a7] at cO;injection cO with cO gr;subst cO;subst gr
   subst a7;exact⟨bD,br,bz,m,nL,g1,g2,g3,ed,g4,g5,g7⟩
theorem N1{fq:bg Func}(dt:to P fq){E:gZ}(D9:sa P B w0 E.code)(Bt:uV P B w0 E.body):qV P B w0 (gZ.call ⟨E.code,sB P fq E⟩):=by
 intro f args H e H' he μ w cz h av;unfold gZ.call at he;cases kc:sB P fq E f args false .run H with
 |none=>simp only[kc] at he;cases he
 |some p=>
  obtain⟨aL,RR,H1⟩:=p;simp only[kc,cp,dB] at he;obtain⟨rfl,rfl⟩:=he;unfold sB at kc;cases qm:fq.get f with
  |none=>rw[qm] at kc;cases kc
  |some fn=>
   rw[qm] at kc;have aD:=dt.fq f fn qm;cases ap:fn.body with
   |none=>
    simp only[ap] at kc;have kc:sq .run (AX P fn f args H)=some (aL,RR,H1):=kc;cases U:AX P fn f args H with
    |none=>rw[U] at kc;cases kc
    |some q=>
     obtain⟨bk,cv⟩:=q;rw[U] at kc;have kc:some (bk,FrameMode.run,cv)=some (aL,RR,H1):=kc;simp only[cp,dB] at kc;obtain⟨rfl,rfl,rfl⟩:=kc;exact .inl (aeS aD ap h av U)
   |some c=>
    simp only[ap] at kc;refine .inr ⟨DL aD ap (dt.num f fn aD (by rw[ap];rfl)) _ w,fun cs=>?_⟩;obtain⟨bD,br,bz,nL,cS,g1,g2,g3,g4,g5,g6,g7,g8,g9⟩:=TC D9 Bt aD ap kc h av cs (fun q=>by cases q);have gU:cS=cs:=g8;subst gU;refine⟨bz,br,nL,⟨bD,g1,g2,g3⟩,?_,g6,?_⟩
    ·cases bz with
     |returned v=>exact g4
     |panicked bK=>exact g4
     |outgrown=>cases aL<;>exact g3.elim
    ·cases bz with
     |returned v=>obtain⟨a,b,c⟩:=g7;exact⟨a,b,g5,c⟩
     |panicked bK=>exact g7
     |outgrown=>trivial
end
end
end Go.Cre
namespace Go.Cre
noncomputable section
open Go.RowKit
section
variable {P:Program}{B:Nat->Prop}{w0 w br:World}{μ f' bD:bY}{H H1 H':aA}{S bn aS:bh}{fr:Frame}{tmps:Array Value}{ds:List Deferred}{cs gl:List Frame}{k:List Item}
theorem MH{E:gZ}(D9:sa P B w0 E.code):yI P B w0 E.aR:=by
 intro l args H e H' he;cases he
end
end
end Go.Cre
namespace Go.Cre
noncomputable section
open Go.RowKit
section
variable {P:Program}{B:Nat->Prop}{w0 w br:World}{μ f' bD:bY}{H H1 H':aA}{S bn aS:bh}{fr:Frame}{tmps:Array Value}{ds:List Deferred}{cs gl:List Frame}{k:List Item}
theorem aff{fq:bg Func}(dt:to P fq):∀n,∀(B:Nat->Prop) (w0:World),sa P B w0 (vy P fq n).code/\uV P B w0 (vy P fq n).body/\qV P B w0 (vy P fq n).call:=by
 intro n;induction n with
 |zero=>
  intro B w0;exact⟨(fun c S H e aS H' he=>by cases he),(fun f args bF H e gh H' he=>by cases he),(fun f args H e H' he=>by cases he)⟩
 |succ n aI=>
  intro B w0;obtain⟨aa,ae,aF⟩:=aI B w0;exact⟨UO dt.rU aa (fun h4 iI _ _=>(aI h4 iI).2.2) (fun h4 iI _ _=>MH (aI h4 iI).1),UL dt aa ae,N1 dt aa ae⟩
theorem afe{fq:bg Func}(dt:to P fq)(n:Nat):sa P B w0 (vy P fq n).code/\uV P B w0 (vy P fq n).body/\qV P B w0 (vy P fq n).call:=aff dt n B w0
end
end
end Go.Cre
namespace Go.Cre
noncomputable section
open Go.RowKit
section
variable {P:Program}{w:World}{H:aA}
structure Laid (P:Program) (w:World) (H:aA):Prop where
 bI:H.bI=.leaf
 ak:H.ak=H.bW
 rows:∀g b,H.mem.get g=some b->b=.dead\/∃cells e f,b=.row cells e false 0 sD true/\g<H.bW/\w.heap[g]?=some (.cells cells.toArray e f)/\cells.all plain=true/\cells.length<=sD
def GW (P:Program)(H:aA):bY:=fun g=>match H.mem.get g with
 |some (.row cells e _ _ _ _)=>some ⟨g,cells.length,P.cellsOf e⟩
 |_=>none
theorem afq(h:Laid P w H):b9 P (fun k=>k<w.heap.size) w (GW P H) H w:=by
 have inv:∀g L,GW P H g=some L->∃cells e f,H.mem.get g=some (.row cells e false 0 sD true)/\L=⟨g,cells.length,P.cellsOf e⟩/\g<H.bW/\w.heap[g]?=some (.cells cells.toArray e f)/\cells.all plain=true/\cells.length<=sD:=by
  intro g L q;unfold GW at q;cases hm:H.mem.get g with
  |none=>rw[hm] at q;cases q
  |some b=>
   rw[hm] at q;rcases h.rows g b hm with rfl|⟨cells,e,f,rfl,bm,a2,a3,a4⟩
   ·cases q
   ·injection q with q;subst q
    exact⟨cells,e,f,rfl,rfl,bm,a2,a3,a4⟩
 refine⟨Kept.refl _ _,fun _ aO=>aO,?_,?_,?_,?_,?_,?_,by rw[h.ak];exact cW _,?_,?_,?_⟩
 ·intro g L q;obtain⟨cells,e,f,bm,rfl,a3,a4,a5,da⟩:=inv g L q;refine⟨_,_,bm,a4,rfl,by simp,rfl,cW _,fun _=>rfl,fun i v v' x y=>?_,⟨fun off ar _ _=>yD ar da,fun q=>by cases q⟩⟩;have:v=v':=by
   rw[aa4] at y;rw[x] at y;injection y
  subst this;exact qG (tk.1 a5 v (cb x))
 ·intro x y eN gv eZ U ai aw;obtain⟨_,_,_,_,rfl,_⟩:=inv x eN U;obtain⟨_,_,_,_,rfl,_⟩:=inv y gv ai;exact absurd aw eZ
 ·intro x L U;obtain⟨_,_,_,_,_,a,_⟩:=inv x L U;rw[h.ak];exact a
 ·intro x L U _;obtain⟨_,_,_,_,rfl,_⟩:=inv x L U;rfl
 ·intro x L U aq _;obtain⟨_,_,_,_,_,a,_⟩:=inv x L U;omega
 ·intro g c e o f z s _ hm;exact⟨⟨g,c.length,P.cellsOf e⟩,by unfold GW;rw[hm]⟩
 ·intro x c e f z s hm;rcases h.rows x _ hm with q|⟨_,_,_,q,_⟩<;>cases q
 ·intro f l x av;rw[h.bI] at av;cases av
 ·intro f l av;rw[h.bI] at av;cases av
def isTrue (x:Option (Ending×FrameMode×aA)):Bool:=match x with|some (.returned (.bool b),_,_)=>b|_=>false
theorem adb{fq:bg Func}(dt:to P fq){n:Nat}{f:FuncId}{fn:Func}{c:Code}(aD:P.funcs[f]?=some fn)(ap:fn.body=some c)(h:Laid P w H)(he:isTrue ((vy P fq n).body f [] false .run H)=true):
 Calls P f #[] w fun e br=>e=.returned (.bool true)/\Below w.heap.size w br:=by
 cases aw:(vy P fq n).body f [] false .run H with
 |none=>rw[aw] at he;cases he
 |some p=>
  obtain⟨e,bF,H'⟩:=p;rw[aw] at he;have aC:(vy P fq n).call f [] H=some (e,H'):=by unfold gZ.call;rw[aw]
  have hs:=(afe (B:=fun k=>k<w.heap.size) (w0:=w) dt n).2.2 f [] H e H' aC (GW P H) w [] (afq h) (b0.nil _);rcases hs with⟨v,v',br,bD,_,q,_⟩|⟨_,q⟩
  ·rw[DL aD ap (dt.num f fn aD (by rw[ap];rfl))] at q;cases q
  ·refine Calls.mono q fun bz br ⟨bD,g1,g2,g3⟩=>?_;cases e with
   |returned v=>
    cases v with
    |bool b=>
     have he:b=true:=he;subst he;cases bz with
     |returned v'=>
      have ay:bB bD (.bool true) v':=g3;rw[ay.Gb];exact⟨rfl,g1.below.below⟩
     |panicked c=>exact g3.elim
     |outgrown=>exact g3.elim
    |_=>cases he
   |panicked c=>cases he
   |outgrown=>cases he
theorem RO{α:Type}:∀{l:List α} {i:Nat} {T eR:bg α},yn l i T=some eR->∀t,eR.get t=if i<=t/\t<i+l.length then l[t -i]? else T.get t:=by
 intro l;induction l with
 |nil=>intro i T eR h t;simp[yn] at h;subst h;rw[an (by rw[Ax];omega)]
 |cons v l aI=>
  intro i T eR h t;simp only[yn] at h;cases hs:bg.set Mv T i v with
  |none=>rw[hs] at h;cases h
  |some C6=>
   rw[hs] at h;rw[aI h t,bg.Vc hs];by_cases aa:i+1<=t/\t<i+1+l.length
   ·rw[aE aa,aE (by rw[jh];omega)];have:t -i=(t -(i+1))+1:=by omega
    rw[this];rfl
   ·rw[an aa];by_cases ae:t=i
    ·subst ae;rw[aE rfl,aE (by simp)];simp
    ·rw[an ae,an (by rw[jh];omega)]
def DU (P:Program):bg Func:=match yn P.funcs.toList 0 .leaf with|some t=>t|none=>.leaf
def QW (P:Program):Bool:=P.funcs.toList.all fun fn=>fn.body.isNone||!(fn.name== "runtime.NumGoroutine")
theorem YE(hm:P.follows .mixedOrders=true)(aP:QW P=true):to P (DU P):=by
 refine⟨hm,fun f fn h=>?_,fun f fn aD ap=>?_⟩
 ·unfold DU at h;cases aB:yn P.funcs.toList 0 .leaf with
  |none=>rw[aB] at h;cases h
  |some t=>
   rw[aB] at h;rw[RO aB] at h;split at h
   ·simpa using h
   ·cases h
 ·unfold QW at aP;rw[tk] at aP;have:=aP fn (by simpa using Jv aD);cases rz:fn.body with
  |none=>rw[rz] at ap;cases ap
  |some c=>simpa[rz] using this
def lay (T:bg fg):List (Nat×TypeId×List Value)->bg fg
 |[]=>T
 |(g,e,cells)::l=>match bg.put (.row cells e false 0 sD true) (lay T l) g with
  |some eR=>eR
  |none=>lay T l
theorem akO{T:bg fg}:∀{l:List (Nat×TypeId×List Value)} {g:Nat} {b:fg},(lay T l).get g=some b->T.get g=some b\/∃e cells,(g,e,cells)∈l/\b=.row cells e false 0 sD true:=by
 intro l;induction l with
 |nil=>intro g b h;exact .inl h
 |cons x l aI=>
  intro g b h;obtain⟨Ky,e,cells⟩:=x;simp only[lay] at h;cases au:bg.put (fg.row cells e false 0 sD true) (lay T l) Ky with
  |none=>
   rw[au] at h;rcases aI h with q|⟨bz,cd,bb,a7⟩
   ·exact .inl q
   ·exact .inr ⟨bz,cd,by simp[bb],a7⟩
  |some eR=>
   rw[au] at h;simp only at h;rw[bg.get_put au] at h;by_cases aq:g=Ky
   ·subst aq;rw[aE rfl] at h;injection h with h
    exact .inr ⟨e,cells,by simp,h.symm⟩
   ·rw[an aq] at h;rcases aI h with q|⟨bz,cd,bb,a7⟩
    ·exact .inl q
    ·exact .inr ⟨bz,cd,by simp[bb],a7⟩
def U1 (n d:Nat)(l:List (Nat×TypeId×List Value)):aA:=⟨lay (bg.full .dead d) l,n,.leaf,0,n⟩
theorem akL{n d:Nat}{l:List (Nat×TypeId×List Value)}(h:∀g e cells,(g,e,cells)∈l->g<n/\(∃f,w.heap[g]?=some (.cells cells.toArray e f))/\cells.all plain=true/\cells.length<=sD):Laid P w (U1 n d l):=by
 refine⟨rfl,rfl,fun g b ap=>?_⟩;rcases akO ap with q|⟨e,cells,bb,a7⟩
 ·rcases bg.Va fg.dead d g with r|r
  ·rw[r] at q;cases q
  ·rw[r] at q;injection q with q;exact .inl q.symm
 ·obtain⟨bm,⟨f,a2⟩,a3,a4⟩:=h g e cells bb;exact .inr ⟨cells,e,f,a7,bm,a2,a3,a4⟩
end
end
end Go.Cre
namespace Go.Cre
noncomputable section
open Go.ChangeShapes
theorem QC{P:Program}{W:World}{name:String}{k:IntKind}{gi:List Int}{g:Nat}{t:TypeId}(aq:P.globalNamed name=some g)(cV:g<P.globals.size)
 (aw:(((begin P (fun _ _=>0) default).world.heap[g]?).bind Obj.row?).map (·.2)=some t)(hs:W.ShapedOpen P)(aB:Lib.TabIs P W name k gi):∃f,W.heap[g]?=some (.cells (gi.map fun z=>Value.int k z).toArray t f):=by
 obtain⟨⟨zero,ek⟩,aa,ae⟩:=abb.1 aw;simp only at ae;subst ae;obtain⟨cs,a,_⟩:=hs.1 g zero ek cV aa;unfold Lib.TabIs World.var? at aB;rw[aq] at aB;simp only[SS,a,cp] at aB;subst aB;exact⟨_,a⟩
end
end Go.Cre
namespace Go.Cre
noncomputable section
open Go.RowKit
section
variable {P:Program}{B:Nat->Prop}{w0 w:World}{μ:bY}{H:aA}{S:bh}{fr:Frame}{tmps:Array Value}{ds:List Deferred}{cs:List Frame}
end
end
end Go.Cre

/- A part of the proof of TableMetric. -/
import Derived.Test.YtmmfodofkbmfnaaGreatDoorCao
import Derived.Laws.Sem
import Derived.Lib.MakeNoZero
import Derived.KernelRfl
set_option linter.unusedVariables false
set_option linter.unusedSimpArgs false
namespace Go.Cre
noncomputable section
open Go.RowKit
section
variable {P:Program}{B:Nat->Prop}{w0 w:World}{μ d' a4:bm}{H H1 H':ah}{S aY aB:aO}{fr:Frame}{tmps:Array Value}{ds:List Deferred}{cs eP:List Frame}
def zR (tmps:Array Value):ResultVar->Sem Value
 |.tmp t=>pure (tmps.getD t undef)
 |.cell a t=>do loadVar t (<-asAddr (tmps.getD a undef))
theorem RM(h:bz P B w0 μ H w){T:aL Value}{n:Nat}(aG:hI μ T n tmps):∀{l:List ResultVar} {vs:List Value},lL P T H l=some vs->
 ∃jU,(l.mapM (zR tmps)).run P w=.ok jU w/\bp μ vs jU:=by
 intro l;induction l with
 |nil=>intro vs he;simp[lL] at he;subst he;exact⟨[],by simp,bp.nil _⟩
 |cons x l aN=>
  intro vs he;cases x with
  |tmp t=>
   simp only[lL] at he;cases cw:T.get t with
   |none=>rw[cw] at he;cases he
   |some u=>
    rw[cw] at he;cases aw:lL P T H l with
    |none=>rw[aw] at he;cases he
    |some r=>
     rw[aw] at he;injection he with he;subst he
     obtain⟨jU,a,b⟩:=aN aw;refine⟨tmps.getD t undef::jU,?_,bp.cons (aG.2 t u cw) b⟩;rw[HV];have e:zR tmps (.tmp t)=pure (tmps.getD t undef):=rfl;rw[e];simp only[Sem.run_bind,Sem.run_pure,Result.andThen,a]
  |cell c t=>
   simp only[lL] at he;cases cw:T.get c with
   |none=>rw[cw] at he;cases he
   |some u=>
    rw[cw] at he;simp only at he;cases aD:tA P H t u with
    |none=>rw[aD] at he;cases he
    |some v=>
     rw[aD] at he;cases aw:lL P T H l with
     |none=>rw[aw] at he;cases he
     |some r=>
      rw[aw] at he;injection he with he;subst he
      obtain⟨jU,a,b⟩:=aN aw;have hu:=aG.2 c u cw;unfold tA at aD;cases u with
      |pointer p=>
       cases p with
       |none=>cases aD
       |some p=>
        obtain⟨id,off,L,rfl,bD,bY⟩:=hu.kS;simp only at aD;obtain⟨v',U,ab⟩:=Js h bD aD;refine⟨v'::jU,?_,bp.cons ab b⟩;rw[HV];have e:(zR tmps (.cell c t)).run P w=.ok v' w:=by
         show(do loadVar t (<-asAddr (tmps.getD c undef)):Sem Value).run P w=_;rw[bY];simp[asAddr,U]
        simp only[Sem.run_bind,e,Result.andThen,a,Sem.run_pure]
      |_=>cases aD
theorem Yc(h:bz P B w0 μ H w){T:aL Value}{n:Nat}(aG:hI μ T n tmps){fn:Func}{vs:List Value}(he:lL P T H fn.results.toList=some vs):
 ∃v',(results fn tmps).run P w=.ok v' w/\a3 μ (pQ vs) v':=by
 obtain⟨jU,a,b⟩:=RM h aG he;have hm:(fn.results.mapM (zR tmps)).run P w=.ok jU.toArray w:=by
  rw[Ov];simp[a]
 have ap:results fn tmps=(do let vs <-fn.results.mapM (zR tmps);pure (if h:vs.size=1 then vs[0] else .tuple vs)):=by
  unfold results;congr 2
 rw[ap];simp only[Sem.run_bind,hm,Result.andThen,Sem.run_pure];refine⟨_,rfl,?_⟩;by_cases U:jU.length=1
 ·have ab:vs.length=1:=b.1.trans U;obtain⟨v,rfl⟩:=OO.1 ab;obtain⟨v',rfl⟩:=OO.1 U;simpa[pQ] using b.2 0 v v' rfl rfl
 ·have ab:vs.length≠1:=fun q=>U (b.1.symm.trans q);have e:pQ vs=.tuple vs.toArray:=by
   unfold pQ;split
   ·simp at ab
   ·rfl
  rw[e];have:¬jU.toArray.size=1:=by simpa using U
  rw[dif_neg this];exact a3.G5 b
theorem gD.ie{bo:List PanicEntry}(h:gD μ [] bo):bo=[]:=nY h.1.symm
theorem gD.g6{x:PanicEntry}{c bo:List PanicEntry}(h:gD μ (x::c) bo):∃dh d,bo=dh::d/\dh.recovered=x.recovered/\dh.goexit=x.goexit/\a3 μ x.v dh.v/\gD μ c d:=by
 cases bo with
 |nil=>have:=h.1;simp at this
 |cons dh d=>
  obtain⟨a,b,e⟩:=h.2 0 x dh rfl rfl;exact⟨dh,d,rfl,a,b,e,by have:=h.1;simpa using this,fun i p q ao bY=>h.2 (i+1) p q (by simpa using ao) (by simpa using bY)⟩
theorem gD.nil(μ:bm):gD μ [] []:=⟨rfl,fun i e bl h=>by simp at h⟩
theorem gD.cons{x dh:PanicEntry}{c bo:List PanicEntry}(U:dh.recovered=x.recovered)(ab:dh.goexit=x.goexit)(aV:a3 μ x.v dh.v)(h:gD μ c bo):gD μ (x::c) (dh::bo):=
 ⟨by simp[h.1],fun i p q ao bY=>by
  cases i with
  |zero=>simp at ao bY;subst ao;subst bY;exact⟨U,ab,aV⟩
  |succ i=>exact h.2 i p q (by simpa using ao) (by simpa using bY)⟩
theorem gD.append{a bA b b':List PanicEntry}(h:gD μ a bA)(k:gD μ b b'):gD μ (a++b) (bA++b'):=by
 induction a generalizing bA with
 |nil=>obtain rfl:=h.ie;exact k
 |cons x a aN=>obtain⟨dh,d,rfl,U,ab,aV,br⟩:=h.g6;exact .cons U ab aV (aN br)
theorem gD.dropWhile{a bA:List PanicEntry}(h:gD μ a bA):gD μ (a.dropWhile (!·.goexit)) (bA.dropWhile (!·.goexit)):=by
 induction a generalizing bA with
 |nil=>obtain rfl:=h.ie;exact .nil _
 |cons x a aN=>
  obtain⟨dh,d,rfl,U,ab,aV,br⟩:=h.g6;simp only[List.dropWhile,ab];cases x.goexit with
  |true=>exact h
  |false=>exact aN br
theorem Yp{u gv:FrameMode}(h:kZ μ u gv):kZ μ (settle u) (settle gv):=by
 cases u with
 |run=>cases gv<;>first|exact h.elim|trivial
 |returning=>cases gv<;>first|exact h.elim|trivial
 |panicking c=>
  cases gv with
  |run=>exact h.elim
  |returning=>exact h.elim
  |panicking bo=>
   have h:gD μ c bo:=h;cases c with
   |nil=>obtain rfl:=h.ie;exact h
   |cons x c=>
    obtain⟨dh,d,rfl,U,ab,aV,br⟩:=h.g6;obtain⟨uZ,aal,aak⟩:=x;obtain⟨Ho,Hn,Ok⟩:=dh;simp only at U ab aV;subst U;subst ab;cases Hn with
    |false=>exact h
    |true=>
     have ax:=br.dropWhile;simp only[settle];cases bY:c.dropWhile (!·.goexit) with
     |nil=>rw[bY] at ax;rw[ax.ie];trivial
     |cons y r=>
      rw[bY] at ax;obtain⟨nQ,cA,e,_⟩:=ax.g6;rw[e] at ax ⊢;exact ax
theorem XY{u gv:FrameMode}{c bo:List PanicEntry}(h:kZ μ u gv)(aF:gD μ c bo):kZ μ (raised u c) (raised gv bo):=by
 cases u with
 |run=>cases gv<;>first|exact h.elim|exact aF
 |returning=>cases gv<;>first|exact h.elim|exact aF
 |panicking d=>
  cases gv with
  |run=>exact h.elim
  |returning=>exact h.elim
  |panicking ht=>exact aF.append h
theorem Yo{u:FrameMode}(h:u≠.run):settle u≠.run:=by
 unfold settle;split
 ·split<;>(intro q;cases q)
 ·exact h
theorem XX{u:FrameMode}{c:List PanicEntry}:raised u c≠.run:=by
 unfold raised;split<;>(intro q;cases q)
theorem RE{E:eC}{fn:Func}{T:aL Value}{eD:List Deferred}{r:Ending×ah}(h:gF P E fn T eD .run H=some r):False:=by
 cases eD with
 |nil=>simp[gF] at h
 |cons d l=>simp[gF,BY] at h
def oY(P:Program)(B:Nat->Prop)(w0:World)(body:FuncId->List Value->Bool->FrameMode->ah->Option (Ending×FrameMode×ah)):Prop:=
 ∀f args a7 H e eS H',body f args true a7 H=some (e,eS,H')->∀μ w bJ,bz P B w0 μ H w->bp μ args bJ->
  (callFunc f bJ.toArray).run P w=.ok (.enter f bJ.toArray) w/\
  ∀(c:Frame) (cs:List Frame),kZ μ a7 c.mode->∃a4 aZ bl gv fr,bz P B w0 a4 H' aZ/\Step μ a4 H H'/\xl a4 e bl/\kZ a4 eS gv/\
   Steps P (lone (Frame.enter P f bJ.toArray .deferred) (c::cs) w) (lone fr ({c with mode:=gv}::cs) aZ)/\fr.kind=.deferred/\fr.going P aZ bl
theorem RF{E:eC}(tT:oY P B w0 E.body){fn:Func}{T:aL Value}{n:Nat}:∀(eD:List Deferred) (u:FrameMode) (H:ah) (e:Ending) (H':ah),gF P E fn T eD u H=some (e,H')->
 ∀(μ:bm) (w:World) (fr:Frame) (cs:List Frame),bz P B w0 μ H w->hI μ T n fr.tmps->nU μ eD fr.defers->kZ μ u fr.mode->u≠.run->P.funcs[fr.fn]?=some fn->
 ∃a4 aZ bl j4,bz P B w0 a4 H' aZ/\Step μ a4 H H'/\xl a4 e bl/\Steps P (lone fr cs w) (lone j4 cs aZ)/\j4.kind=fr.kind/\j4.fn=fr.fn/\j4.going P aZ bl:=by
 intro eD;induction eD with
 |nil=>
  intro u H e H' he μ w fr cs h aG ax hm hu ay;cases h':fr.defers with
  |cons d l=>rw[h'] at ax;cases ax
  |nil=>
   cases u with
   |run=>exact absurd rfl hu
   |returning=>
    have yR:fr.mode=.returning:=by cases bY:fr.mode<;>rw[bY] at hm<;>first|rfl|exact hm.elim
    simp only[gF] at he;cases ap:lL P T H fn.results.toList with
    |none=>rw[ap] at he;cases he
    |some vs=>
     rw[ap] at he;simp only[bL,cU] at he;obtain⟨rfl,rfl⟩:=he;obtain⟨v',a,b⟩:=Yc h aG ap;exact⟨μ,w,.returned v',fr,h,Step.refl _ _,b,.refl P _,rfl,rfl,yR,h',fn,ay,a⟩
   |panicking c=>
    cases bY:fr.mode with
    |run=>rw[bY] at hm;exact hm.elim
    |returning=>rw[bY] at hm;exact hm.elim
    |panicking bo=>
     rw[bY] at hm;simp only[gF,bL,cU] at he;obtain⟨rfl,rfl⟩:=he;exact⟨μ,w,.panicked bo,fr,h,Step.refl _ _,hm,.refl P _,rfl,rfl,bY,h',fn,ay⟩
 |cons d eD aN=>
  intro u H e H' he μ w fr cs h aG ax hm hu ay;have e4:fr.mode≠.run:=fun q=>by rw[q] at hm;cases u<;>first|exact hu rfl|exact hm.elim
  cases h':fr.defers with
  |nil=>rw[h'] at ax;cases ax
  |cons ht dT=>
   rw[h'] at ax;cases ax with
   |cons _ _ _ _ Tz qE=>
   simp only[gF] at he;have yS:BY u=false:=by cases u<;>first|exact absurd rfl hu|rfl
   rw[yS,cZ] at he;rcases Tz with⟨h9,cap,c',t1,t2,t3,t4,t5⟩|⟨r,L,t1,t2,t3⟩
   ·rw[t1] at he;simp only at he;cases vX:ji P H h9 d.args.toList cap.toList with
    |none=>rw[vX] at he;cases he
    |some p=>
     obtain⟨f,args⟩:=p;rw[vX] at he;simp only at he;obtain⟨hq,bP,bS⟩:=D3 (w:=w) t5 t4 vX;cases af:E.body f args true u H with
     |none=>rw[af] at he;cases he
     |some q=>
      obtain⟨aA,eS,H1⟩:=q;rw[af] at he;obtain⟨bV,b7⟩:=tT f args u H aA eS H1 af μ w hq h bS;have hinv:(invoke ht.target ht.args).run P w=.ok (.enter f hq.toArray) w:=by
       rw[t2];have aA:c'.toList.toArray=c':=by simp
       have aW:ht.args.toList.toArray=ht.args:=by simp
       rw[aA,aW] at bP;rw[bP];exact bV
      have U:=step_defer (cs:=cs) e4 h' t2 hinv;obtain⟨d',bc,n8,gv,abn,bE,b8,dj,eg,hb,e1,hJ⟩:=b7 {fr with defers:=dT} cs hm;have abR:eS≠.run->gv≠.run:=fun q cR=>by rw[cR] at eg;cases eS<;>first|exact q rfl|exact eg.elim
      cases aA with
      |outgrown=>cases he
      |returned v=>
       cases n8 with
       |returned v'=>
        simp only at he;by_cases K1:eS=.run
        ·exfalso;rw[K1] at he
         --a running frame aa9 not leave
         have:settle FrameMode.run=.run:=rfl;rw[this] at he;exact(RE (P:=P) (E:=E) he).elim
        have ab:=step_going_returned (P:=P) (c:={{fr with defers:=dT} with mode:=gv}) (cs:=cs) e1 hJ;obtain⟨g8,b6,aW,tD,b4,b0,cI,eM,eH,fg,e2⟩:=aN (settle eS) H1 e H' he d' bc {{{fr with defers:=dT} with mode:=gv} with mode:=settle gv} cs bE (aG.mono b8.ext) (qE.mono b8.ext) (Yp eg) (Yo K1) ay;exact⟨g8,b6,aW,tD,b4,b8.trans b0,cI,(Steps.head U (Steps.trans hb (.one ab))).trans eM,eH,fg,e2⟩
       |panicked c=>exact dj.elim
       |outgrown=>exact dj.elim
      |panicked bT=>
       cases n8 with
       |returned v'=>exact dj.elim
       |outgrown=>exact dj.elim
       |panicked tp=>
        simp only at he;have ab:=step_going_panicked (P:=P) (c:={{fr with defers:=dT} with mode:=gv}) (cs:=cs) hJ;obtain⟨g8,b6,aW,tD,b4,b0,cI,eM,eH,fg,e2⟩:=aN (raised eS bT) H1 e H' he d' bc {{{fr with defers:=dT} with mode:=gv} with mode:=raised gv tp} cs bE (aG.mono b8.ext) (qE.mono b8.ext) (XY eg dj) XX ay;exact⟨g8,b6,aW,tD,b4,b8.trans b0,cI,(Steps.head U (Steps.trans hb (.one ab))).trans eM,eH,fg,e2⟩
   ·rw[t1] at he;simp only at he;cases qJ:H.mem.get r with
    |none=>rw[qJ] at he;cases he
    |some b=>
     rw[qJ] at he;cases b with
     |fN o=>
      cases o with
      |none=>cases he
      |some l=>
       cases l with
       |cons x y=>cases he
       |nil=>
        simp only at he;cases ar:Nat.ble H.bf r with
        |false=>rw[ar] at he;cases he
        |true=>
         rw[ar,bH] at he;have ar:=fV ar;cases y3:H.upd r (.fN none) with
         |none=>rw[y3] at he;cases he
         |some H1=>
          rw[y3] at he;obtain⟨IJ,Wx,aQ,aP,bC⟩:=h.eG r L t2;rw[qJ] at aQ;injection aQ with aQ;subst aQ
          cases Wx with
          |deferred tv=>
           obtain⟨rfl,_⟩:=bC;obtain⟨bE,b8⟩:=h.Oc t2 ar qJ (fun _ _ _ _ _ _ q=>by cases q) (fun q=>by cases q) y3 (fun _ _ _ _ _ _ q=>by cases q) (o':=.deferred none) (b':=.fN none) ⟨rfl,.inr rfl⟩;have KZ:(Instr.takeDeferred L.r).run P w=.ok [] {w with heap:=w.heap.setIfInBounds L.r (.deferred none)}:=by
            simp[Instr.takeDeferred,getObj,setObj,Sem.run,aP]
           have U:step P (lone fr cs w)=.next (lone {fr with defers:=dT} cs {w with heap:=w.heap.setIfInBounds L.r (.deferred none)}):=by
            refine step_lone_go ?_;obtain⟨abb,aa8⟩:=ht;simp only at t3;subst t3;cases yR:fr.mode with
            |run=>exact absurd yR e4
            |returning=>simp[stepG,unwind,yR,h',KZ]
            |panicking bT=>simp[stepG,unwind,yR,h',KZ]
           obtain⟨g8,b6,aW,tD,b4,b0,cI,eM,eH,fg,e2⟩:=aN u H1 e H' he μ _ {fr with defers:=dT} cs bE aG qE hm hu ay;exact⟨g8,b6,aW,tD,b4,b8.trans b0,cI,.head U eM,eH,fg,e2⟩
          |_=>exact bC.elim
     |_=>cases he
end
end
end Go.Cre
namespace Go.Cre
noncomputable section
open Go.RowKit
section
variable {P:Program}{B:Nat->Prop}{w0 w:World}{μ d' a4:bm}{H H1 H':ah}{S aY aB:aO}{fr:Frame}{tmps:Array Value}{ds:List Deferred}{cs eP:List Frame}{k:List Item}
theorem YE(ap:fr.roundOf=none):step P (lone (bj fr tmps ds []) cs w)=.next (lone {bj fr tmps ds [] with mode:=.returning} cs w):=step_lone_go (by simp[stepG,stepG.exec,bj,ap])
theorem YR(ap:fr.roundOf=none):step P (lone (bj fr tmps ds (.code .ret::k)) cs w)=.next (lone {bj fr tmps ds (.code .ret::k) with mode:=.returning} cs w):=step_lone_go (by simp[stepG,stepG.exec,bj,ap])
theorem Xt:∀{l l':List Value},l.all plain=true->bp μ l l'->l'=l:=by
 intro l;induction l with
 |nil=>intro l' _ h;exact h.ie
 |cons x l aN=>
  intro l' ao h;obtain⟨dh,m,rfl,U,ab⟩:=h.g6;simp only[xr,eT] at ao;rw[aN ao.2 ab,a3.Cu ao.1 U]
theorem L7(fn:Func)(U:fn.name= "internal/bytealg.MakeNoZero"\/fn.name= "internal/abi.NoEscape")(ab:fn.origin= ""):Extern.findNext fn=none:=by
 have aA:Extern.allNextRows.lookup "internal/bytealg.MakeNoZero"=none:=by kernel_rfl
 have aW:Extern.allNextRows.lookup "internal/abi.NoEscape"=none:=by kernel_rfl
 have cr:Extern.allNextRows.lookup ""=none:=by kernel_rfl
 unfold Extern.findNext;rcases U with U|U<;>rw[U,ab]<;>simp[aA,aW,cr]
theorem R2(fn:Func)(U:fn.name= "internal/bytealg.MakeNoZero"):Extern.find fn=some (Extern.BytealgMakeNoZero.makeNoZero fn.params fn.resultTypes):=by
 have aA:Extern.allGenericRows.lookup "internal/bytealg.MakeNoZero"=none:=by kernel_rfl
 have aW:Extern.allTypedRows.lookup "internal/bytealg.MakeNoZero"=some Extern.BytealgMakeNoZero.makeNoZero:=by kernel_rfl
 unfold Extern.find;rw[U];simp[aA,aW]
theorem R3(fn:Func)(U:fn.name= "internal/abi.NoEscape"):Extern.find fn=some Extern.AbiNoEscape.same:=by
 have aA:Extern.allGenericRows.lookup "internal/abi.NoEscape"=none:=by kernel_rfl
 have aW:Extern.allTypedRows.lookup "internal/abi.NoEscape"=none:=by kernel_rfl
 have cr:Extern.allRows.lookup "internal/abi.NoEscape"=some Extern.AbiNoEscape.same:=by kernel_rfl
 unfold Extern.find;rw[U];simp[aA,aW,cr]
theorem I0{f:FuncId}{fn:Func}(ay:P.funcs[f]?=some fn)(af:fn.body=none)(aE:(fn.name== "runtime.NumGoroutine")=false)(U:Extern.findNext fn=none){x:Array Value->Sem Value}(ab:Extern.find fn=some x){args:Array Value}{v:Value}{aZ:World}(j:(x args).run P w=.ok v aZ):
 (callFunc f args).run P w=.ok (.value v) aZ:=by
 have qK:¬fn.name= "runtime.NumGoroutine":=by simpa using aE
 simp[callFunc,program,Sem.run,ay,af,qK,U,ab,mark,j]
theorem RB{f:FuncId}{fn:Func}{args bJ:List Value}{e:Ending}(ay:P.funcs[f]?=some fn)(af:fn.body=none)(h:bz P B w0 μ H w)(aw:bp μ args bJ)(he:tz P fn f args H=some (e,H')):
 ∃v v' aZ a4,e=.returned v/\(callFunc f bJ.toArray).run P w=.ok (.value v') aZ/\bz P B w0 a4 H' aZ/\Step μ a4 H H'/\a3 a4 v v':=by
 unfold tz at he;cases ao:args.all plain with
 |true=>
  rw[ao,bH] at he;obtain rfl:=Xt ao aw;have hzero:D' P fn H bJ fn.resultTypes.toList=some (e,H')->∃v v' aZ a4,e=.returned v/\(callFunc f bJ.toArray).run P w=.ok (.value v') aZ/\bz P B w0 a4 H' aZ/\Step μ a4 H H'/\a3 a4 v v':=by
   intro he;unfold D' at he;split at he
   ·rename_i n t Fq _;cases aF:(decide (fn.name= "internal/bytealg.MakeNoZero")&&decide (fn.origin= "")&&Nat.ble n 1000000) with
    |false=>rw[aF] at he;cases he
    |true=>
     rw[aF,bH] at he;simp only[eT,A2] at aF;obtain⟨⟨aQ,aP⟩,bC⟩:=aF;have bC:=fV bC;split at he
     ·rename_i el hu;cases jH:Nat.beq (P.cellsOf el) 1 with
      |false=>rw[jH] at he;cases he
      |true=>
       rw[jH,bH] at he;have jH:=dB jH;unfold Jx at he;cases gH:H.kt [] el false with
       |none=>rw[gH] at he;cases he
       |some p=>
        obtain⟨id,H1⟩:=p;rw[gH] at he;simp only[bL,cU] at he;obtain⟨rfl,rfl⟩:=he;obtain⟨x1,bE,b8,dj⟩:=Lib.run_makeNoZero w fn.params t el hu n (by omega);have Ul:fn.resultTypes=#[t]:=by
         apply mZ;rw[Fq]
        obtain⟨cM,gz,rfl⟩:=(h.drew.drew).F' (o:=.cells x1 el) (L:=⟨w.heap.size,x1.size,1⟩) gH rfl (fun f=>⟨rfl,rfl,jH,fj _,(fun q=>by cases q),(fun i v v' q=>by simp at q),⟨fun off _ a b=>by simp at b,fun _=>.inl rfl⟩⟩);refine⟨_,.slice (some ⟨w.heap.size,0,none⟩) n x1.size,_,_,rfl,?_,cM,gz,.lo _ 0 n x1.size ⟨w.heap.size,x1.size,1⟩ (bm.hC _ _ _) b8 (by simp)⟩;refine I0 ay af (by rw[aQ];rfl) (L7 fn (.inl aQ) aP) (R2 fn aQ) ?_;rw[Ul];exact bE
     ·cases he
   ·cases he
  unfold Ea at he;split at he
  ·rename_i v fo;cases Fm:plain v with
   |false=>rw[Fm] at he;cases he
   |true=>
    rw[Fm,bH] at he;simp only[bL,cU] at he;obtain⟨rfl,rfl⟩:=he;exact⟨v,v,w,μ,rfl,Jw fo w,h,Step.refl _ _,ll Fm⟩
  ·exact hzero he
 |false=>
  rw[ao,cZ] at he;unfold Jy at he;split at he
  ·rename_i v;cases aF:(decide (fn.name= "internal/abi.NoEscape")&&decide (fn.origin= "")) with
   |false=>rw[aF] at he;cases he
   |true=>
    rw[aF,bH] at he;simp only[eT,A2] at aF;obtain⟨aQ,aP⟩:=aF;simp only[bL,cU] at he;obtain⟨rfl,rfl⟩:=he;obtain⟨v',l',rfl,U,ab⟩:=aw.g6;obtain rfl:=ab.ie;refine⟨v,v',w,μ,rfl,?_,h,Step.refl _ _,U⟩;exact I0 ay af (by rw[aQ];rfl) (L7 fn (.inr aQ) aP) (R3 fn aQ) rfl
  ·cases he
theorem aL.JL{α:Type}(a:α):∀(d n:Nat),(aL.full a d).get n=none\/(aL.full a d).get n=some a:=by
 intro d;induction d with
 |zero=>intro n;exact .inl rfl
 |succ d aN=>
  intro n;cases n with
  |zero=>exact .inr rfl
  |succ m=>
   have e:aL.full a (d+1)=.node (some a) (aL.full a d) (aL.full a d):=rfl;rw[e,aL.mw];split<;>exact aN _
theorem Pt:∀{l:List Value} {i:Nat} {T dr:aL Value},ki l i T=some dr->∀t,dr.get t=if i<=t/\t<i+l.length then l[t -i]? else T.get t:=by
 intro l;induction l with
 |nil=>intro i T dr h t;simp[ki] at h;subst h;rw[a1 (by rw[At];omega)]
 |cons v l aN=>
  intro i T dr h t;simp only[ki] at h;cases ag:aL.set w7 T i v with
  |none=>rw[ag] at h;cases h
  |some rL=>
   rw[ag] at h;rw[aN h t,aL.Ek ag];by_cases U:i+1<=t/\t<i+1+l.length
   ·rw[bs U,bs (by simp;omega)];have:t -i=(t -(i+1))+1:=by omega
    rw[this];rfl
   ·rw[a1 U];by_cases ab:t=i
    ·subst ab;rw[bs rfl,bs (by simp)];simp
    ·rw[a1 ab,a1 (by simp;omega)]
theorem R9{args bJ:List Value}{n:Nat}{T:aL Value}(aw:bp μ args bJ)(cw:ki args 0 (blank n)=some T):hI μ T n (bJ.toArray++Array.replicate (n -bJ.toArray.size) undef):=by
 refine⟨by simp;omega,fun t v h=>?_⟩;rw[Pt cw] at h;by_cases aG:t<args.length
 ·rw[bs ⟨fj _,by omega⟩,Nat.sub_zero] at h;have BM:t<bJ.length:=by have:=aw.1;omega
  have:(bJ.toArray++Array.replicate (n -bJ.toArray.size) undef).getD t undef=bJ[t]:=by
   simp[Hy,BM]
  rw[this];exact aw.2 t v _ h (fx BM)
 ·rw[a1 (by omega)] at h;have hu:v=undef:=by
   rcases aL.JL undef (Eb n) t with q|q
   ·unfold blank at h;rw[q] at h;cases h
   ·unfold blank at h;rw[q] at h;injection h with h;exact h.symm
  subst hu;have BM:¬t<bJ.length:=by have:=aw.1;omega
  have:(bJ.toArray++Array.replicate (n -bJ.toArray.size) undef).getD t undef=undef:=by
   simp only[Array.getD_eq_getD_getElem?,Hy,HZ,BM,zd,Array.getElem?_replicate];split<;>rfl
  rw[this];exact a3.undef μ
theorem IS{E:eC}(r6:m0 P B w0 E.code)(tT:oY P B w0 E.body){f:FuncId}{fn:Func}{c:Code}{args bJ:List Value}{bu:Bool}{a7 eS:FrameMode}{e:Ending}
 (ay:P.funcs[f]?=some fn)(af:fn.body=some c)(he:xN P E fn c bu a7 H (ki args 0 (blank fn.ntmps))=some (e,eS,H'))
 (h:bz P B w0 μ H w)(aw:bp μ args bJ)(cs:List Frame)(hK:bu=true->∃tn rest,cs=tn::rest/\kZ μ a7 tn.mode):
 ∃a4 aZ bl j4 cb,bz P B w0 a4 H' aZ/\Step μ a4 H H'/\xl a4 e bl/\Steps P (lone (Frame.enter P f bJ.toArray (if bu then .deferred else .normal)) cs w) (lone j4 cb aZ)/\
  j4.kind=(if bu then .deferred else .normal)/\j4.fn=f/\j4.going P aZ bl/\hF bu cs cb/\(bu=true->∃bE rest,cb=bE::rest/\kZ a4 eS bE.mode):=by
 cases cw:ki args 0 (blank fn.ntmps) with
 |none=>rw[cw] at he;cases he
 |some T=>
  rw[cw] at he;have he:ql P E fn (E.code c ⟨T,fn.ntmps,[],bu,a7,none⟩ H)=some (e,eS,H'):=he
  let h8:Frame:=Frame.enter P f bJ.toArray (if bu then .deferred else .normal)
  have hY:h8=bj h8 (bJ.toArray++Array.replicate (fn.ntmps -bJ.toArray.size) undef) [] [.code c]:=by
   simp[h8,Frame.enter,bj,ay,af]
  have cg:fZ μ ⟨T,fn.ntmps,[],bu,a7,none⟩ h8 (bJ.toArray++Array.replicate (fn.ntmps -bJ.toArray.size) undef) [] cs:=
   ⟨R9 aw cw,.nil,rfl,fun _=>rfl,(fun l q=>by cases q),hK⟩
  cases ap:E.code c ⟨T,fn.ntmps,[],bu,a7,none⟩ H with
  |none=>rw[ap] at he;cases he
  |some p=>
   obtain⟨x,aY,H1⟩:=p;rw[ap] at he;have aF:=r6 c _ H x aY H1 ap μ w h8 _ [] cs [] (.code c) h cg (.inl rfl);rw[<-hY] at aF;have dR:h8.roundOf=none:=rfl
   --rk frame leaves
   have fin:∀(u jS:FrameMode) (d':bm) (bc:World) (t1:Array Value) (d1:List Deferred) (eP:List Frame) (a8:List Item),Reached P B w0 μ H ⟨T,fn.ntmps,[],bu,a7,none⟩ h8 cs aY H1 d' bc t1 d1 eP->kZ d' u jS->u≠.run->
    Steps P (lone h8 cs w) (lone {bj h8 t1 d1 a8 with mode:=jS} eP bc)->na aY.a7 (gF P E fn aY.T aY.ds u H1)=some (e,eS,H')->
    ∃a4 aZ bl j4 cb,bz P B w0 a4 H' aZ/\Step μ a4 H H'/\xl a4 e bl/\Steps P (lone h8 cs w) (lone j4 cb aZ)/\
     j4.kind=(if bu then .deferred else .normal)/\j4.fn=f/\j4.going P aZ bl/\hF bu cs cb/\(bu=true->∃bE rest,cb=bE::rest/\kZ a4 eS bE.mode):=by
    intro u jS d' bc t1 d1 eP a8 iM hm hu dA qG;cases v5:gF P E fn aY.T aY.ds u H1 with
    |none=>rw[v5] at qG;cases qG
    |some q=>
     obtain⟨aW,bG⟩:=q;rw[v5] at qG;have qG:some (aW,aY.a7,bG)=some (e,eS,H'):=qG;simp only[bL,cU] at qG;obtain⟨rfl,rfl,rfl⟩:=qG;obtain⟨g8,b6,bl,tD,b4,b0,cI,eM,eH,fg,e2⟩:=RF tT aY.ds u H1 aW bG v5 d' bc {bj h8 t1 d1 a8 with mode:=jS} eP iM.h iM.f.t iM.f.d hm hu ay;refine⟨g8,b6,bl,tD,eP,b4,iM.iR.trans b0,cI,dA.trans eM,eH,fg,e2,iM.c,fun ax=>?_⟩;obtain⟨bE,rest,a,b⟩:=iM.f.a7 (iM.bu.trans ax);exact⟨bE,rest,a,b.mono b0.ext⟩
   cases x with
   |normal=>
    obtain⟨d',bc,t1,d1,eP,iM,dA⟩:=aF;exact fin .returning .returning d' bc t1 d1 eP [] iM trivial (fun q=>by cases q) (dA.trans (.one (YE dR))) he
   |ret=>
    obtain⟨d',bc,t1,d1,eP,a8,iM,dA⟩:=aF;exact fin .returning .returning d' bc t1 d1 eP (.code .ret::a8) iM trivial (fun q=>by cases q) (dA.trans (.one (YR dR))) he
   |panic bT=>
    obtain⟨d',bc,t1,d1,eP,tp,a8,iM,EP,dA⟩:=aF;exact fin (.panicking bT) (.panicking tp) d' bc t1 d1 eP a8 iM EP (fun q=>by cases q) dA he
   |exit id=>cases he
   |goto l=>cases he
   |outgrown=>cases he
structure n1 (P:Program) (eo:aL Func):Prop where
 nD:P.follows .mixedOrders=true
 eo:∀f fn,eo.get f=some fn->P.funcs[f]?=some fn
 num:∀(f:Nat) fn,P.funcs[f]?=some fn->fn.body.isSome=true->(fn.name== "runtime.NumGoroutine")=false
theorem x8{f:FuncId}{fn:Func}{c:Code}(ay:P.funcs[f]?=some fn)(af:fn.body=some c)(aE:(fn.name== "runtime.NumGoroutine")=false)(args:Array Value)(w:World):(callFunc f args).run P w=.ok (.enter f args) w:=by
 have qK:¬fn.name= "runtime.NumGoroutine":=by simpa using aE
 simp[callFunc,program,Sem.run,ay,af,qK]
theorem Jo{eo:aL Func}(dN:n1 P eo){E:eC}(r6:m0 P B w0 E.code)(tT:oY P B w0 E.body):oY P B w0 (nh P eo E):=by
 intro f args a7 H e eS H' he μ w bJ h aw;unfold nh at he;cases lQ:eo.get f with
 |none=>rw[lQ] at he;cases he
 |some fn=>
  rw[lQ] at he;have ay:=dN.eo f fn lQ;cases af:fn.body with
  |none=>simp only[af] at he;cases he
  |some c=>
   simp only[af] at he;refine⟨x8 ay af (dN.num f fn ay (by rw[af];rfl)) _ w,fun tn cs hm=>?_⟩;obtain⟨a4,aZ,bl,j4,cb,b4,b0,cI,eM,eH,fg,e2,lM,JG⟩:=IS r6 tT ay af he h aw (tn::cs) (fun _=>⟨tn,cs,rfl,hm⟩);obtain⟨bE,rest,m,aQ,aP⟩:=lM;injection aQ with aQ bC;subst aQ;subst bC
   obtain⟨b8,uL,cJ,cW⟩:=JG rfl;rw[aP] at cJ;injection cJ with cJ eE;subst cJ;subst eE
   subst aP;exact⟨a4,aZ,bl,m,j4,b4,b0,cI,cW,eM,eH,e2⟩
theorem DY{eo:aL Func}(dN:n1 P eo){E:eC}(r6:m0 P B w0 E.code)(tT:oY P B w0 E.body):lA P B w0 (eC.call ⟨E.code,nh P eo E⟩):=by
 intro f args H e H' he μ w bJ h aw;unfold eC.call at he;cases gf:nh P eo E f args false .run H with
 |none=>simp only[gf] at he;cases he
 |some p=>
  obtain⟨aA,G8,H1⟩:=p;simp only[gf,bL,cU] at he;obtain⟨rfl,rfl⟩:=he;unfold nh at gf;cases lQ:eo.get f with
  |none=>rw[lQ] at gf;cases gf
  |some fn=>
   rw[lQ] at gf;have ay:=dN.eo f fn lQ;cases af:fn.body with
   |none=>
    simp only[af] at gf;have gf:na .run (tz P fn f args H)=some (aA,G8,H1):=gf;cases j:tz P fn f args H with
    |none=>rw[j] at gf;cases gf
    |some q=>
     obtain⟨aW,bG⟩:=q;rw[j] at gf;have gf:some (aW,FrameMode.run,bG)=some (aA,G8,H1):=gf;simp only[bL,cU] at gf;obtain⟨rfl,rfl,rfl⟩:=gf;exact .inl (RB ay af h aw j)
   |some c=>
    simp only[af] at gf;refine .inr ⟨x8 ay af (dN.num f fn ay (by rw[af];rfl)) _ w,fun cs=>?_⟩;obtain⟨a4,aZ,bl,j4,cb,b4,b0,cI,eM,eH,fg,e2,lM,JG⟩:=IS r6 tT ay af gf h aw cs (fun q=>by cases q);have hK:cb=cs:=lM;subst hK;refine⟨bl,aZ,j4,⟨a4,b4,b0,cI⟩,?_,fg,?_⟩
    ·cases bl with
     |returned v=>exact eM
     |panicked bT=>exact eM
     |outgrown=>cases aA<;>exact cI.elim
    ·cases bl with
     |returned v=>obtain⟨a,b,c⟩:=e2;exact⟨a,b,eH,c⟩
     |panicked bT=>exact e2
     |outgrown=>trivial
end
end
end Go.Cre

/- A part of the proof of TableMetric. -/
import Derived.Test.YtmmfodofkbmfnaaGreatDoorCap
import Derived.ChangeSame
import Derived.Lib.LaidTab
set_option linter.unusedVariables false
set_option linter.unusedSimpArgs false
namespace Go.Cre
noncomputable section
open Go.RowKit
section
variable {P:Program}{B:Nat->Prop}{w0 w aZ:World}{μ d' a4:bm}{H H1 H':ah}{S aY aB:aO}{fr:Frame}{tmps:Array Value}{ds:List Deferred}{cs eP:List Frame}{k:List Item}
theorem XF{n:Nat}:∀{ps:List Tmp} {args bJ:List Value} {T dr:aL Value} {tmps:Array Value},sM T ps args=some dr->bp μ args bJ->hI μ T n tmps->xJ n ps=true->
 ps.length=bJ.length/\hI μ dr n ((ps.zip bJ).foldl (fun tmps (x:Tmp×Value)=>tmps.setIfInBounds x.1 x.2) tmps):=by
 intro ps;induction ps with
 |nil=>
  intro args bJ T dr tmps he aw aG _;cases args with
  |nil=>
   obtain rfl:=aw.ie;simp[sM] at he;subst he;exact⟨rfl,aG⟩
  |cons=>simp[sM] at he
 |cons t ps aN=>
  intro args bJ T dr tmps he aw aG af;cases args with
  |nil=>simp[sM] at he
  |cons v args=>
   obtain⟨v',l',rfl,U,ab⟩:=aw.g6;simp only[sM] at he;simp only[xJ,eT] at af;have cx:t<n:=fV af.1;cases ag:aL.set w7 T t v with
   |none=>rw[ag] at he;cases he
   |some rL=>
    rw[ag] at he;have y2:hI μ rL n (tmps.setIfInBounds t v'):=by
     refine⟨by simpa using aG.1,fun x u q=>?_⟩;rw[aL.Ek ag] at q;by_cases j:x=t
     ·subst j;rw[bs rfl] at q;injection q with q;subst q
      have:(tmps.setIfInBounds x v').getD x undef=v':=by
       have:x<tmps.size:=jZ cx aG.1;simp[this]
      rw[this];exact U
     ·rw[a1 j] at q;have:(tmps.setIfInBounds t v').getD x undef=tmps.getD x undef:=by
       simp[Hz (Ne.symm j)]
      rw[this];exact aG.2 x u q
    obtain⟨a,b⟩:=aN he ab y2 af.2;exact⟨by simp[a],b⟩
theorem YJ{l:Nat}{v:Value}{c:Frame}(ap:fr.roundOf=some l)(hk:fr.kind=.normal)(e4:(Instr.endRound l none).run P w=.ok v aZ):
 step P (lone (bj fr tmps ds []) (c::cs) w)=.next (lone (c.finish v) cs aZ):=step_lone_go (by simp[stepG,stepG.exec,bj,ap,e4,doReturn,hk])
theorem YL{l:Nat}{v:Value}{c:Frame}(ap:fr.roundOf=some l)(hk:fr.kind=.normal)(e4:(Instr.endRound l (some .ret)).run P w=.ok v aZ):
 step P (lone (bj fr tmps ds (.code .ret::k)) (c::cs) w)=.next (lone (c.finish v) cs aZ):=step_lone_go (by simp[stepG,stepG.exec,bj,ap,e4,doReturn,hk])
theorem YK{l id:Nat}{v:Value}{c:Frame}(ap:fr.roundOf=some l)(hk:fr.kind=.normal)(he:exitTo id k=none)(e4:(Instr.endRound l (some (.exit id))).run P w=.ok v aZ):
 step P (lone (bj fr tmps ds (.code (.exit id)::k)) (c::cs) w)=.next (lone (c.finish v) cs aZ):=step_lone_go (by simp[stepG,stepG.exec,bj,ap,he,e4,doReturn,hk])
theorem YA{l:Nat}(ap:fr.roundOf=some l)(e4:(Instr.beginRound l).run P w=.ok () aZ):
 step P (lone (bj fr tmps ds (.beginRound::k)) cs w)=.next (lone (bj fr tmps ds k) cs aZ):=step_lone_go (by simp[stepG,stepG.exec,stepG.apply,bj,ap,e4,Frame.finish])
theorem zp(h:bz P B w0 μ H w){l:Nat}{L:Loc}{r:xi}(bD:μ l=some L)(hm:H.mem.get l=some (.loop r)):
 ∃cA,w.heap[L.r]?=some (.loop cA)/\hl P μ L (.loop r) (.loop cA):=by
 obtain⟨b,o,aQ,aP,bC⟩:=h.eG l L bD;rw[hm] at aQ;injection aQ with aQ;subst aQ
 cases o with
 |loop cA=>exact⟨cA,aP,bC⟩
 |_=>exact bC.elim
theorem Hl(h:bz P B w0 μ H w){l:Nat}{L:Loc}{r cJ:xi}{pV:Loop}(bD:μ l=some L)(ar:H.bf<=l)(hm:H.mem.get l=some (.loop r))(hu:H.upd l (.loop cJ)=some H')(af:hl P μ L (.loop cJ) (.loop pV)):
 bz P B w0 μ H' {w with heap:=w.heap.setIfInBounds L.r (.loop pV)}/\Step μ μ H H':=
 h.Oc bD ar hm (fun _ _ _ _ _ _ q=>by cases q) (fun q=>by cases q) hu (fun _ _ _ _ _ _ q=>by cases q) af
theorem CW{E:eC}(r6:m0 P B w0 E.code):rM P B w0 E.az:=by
 intro l args H e H' he μ w L bJ h bD aw;unfold eC.az at he;cases hm:H.mem.get l with
 |none=>rw[hm] at he;cases he
 |some b=>
  rw[hm] at he;cases b with
  |loop r=>
   simp only at he;cases aF:(Nat.ble H.bf l&&xJ r.n r.params) with
   |false=>rw[aF] at he;cases he
   |true=>
    rw[aF,bH] at he;simp only[eT] at aF;have ar:=fV aF.1;obtain⟨cA,gI,gW⟩:=zp h bD hm;obtain⟨bV,b7,c5,dM,fF,gp,bn,kG,lH⟩:=gW;cases ao:sM r.T r.params args with
    |none=>rw[ao] at he;cases he
    |some T=>
     rw[ao] at he;have he:Ol E l r.body (E.code r.assign ⟨T,r.n,[],false,.run,some l⟩ H)=some (e,H'):=he;obtain⟨hlen,cw⟩:=XF ao aw gp aF.2;cases aK:E.code r.assign ⟨T,r.n,[],false,.run,some l⟩ H with
     |none=>rw[aK] at he;cases he
     |some p=>
      obtain⟨fa,aY,H1⟩:=p;rw[aK] at he;cases fa with
      |normal=>
       have he:Hr E l r.body aY H1=some (e,H'):=he;unfold Hr at he;cases By:H1.mem.get l with
       |none=>rw[By] at he;cases he
       |some b=>
        rw[By] at he;cases b with
        |loop cJ=>
         simp only at he;cases dA:cJ.state with
         |ready=>
          simp only[dA] at he;cases hu:H1.upd l (.loop {cJ with state:=.busy}) with
          |none=>rw[hu] at he;cases he
          |some bG=>
           rw[hu] at he;have he:Om l (E.code r.body aY bG)=some (e,H'):=he;cases af:E.code r.body aY bG with
           |none=>rw[af] at he;cases he
           |some p=>
            obtain⟨fh,Il,f'⟩:=p;rw[af] at he;have he:(match FX fh with|some aa=>CV f' l aa|none=>none)=some (e,H'):=he
            cases aX:FX fh with
            |none=>rw[aX] at he;cases he
            |some aa=>
             rw[aX] at he;have he:CV f' l aa=some (e,H'):=he;unfold CV at he;cases qI:f'.mem.get l with
             |none=>rw[qI] at he;cases he
             |some b=>
              rw[qI] at he;cases b with
              |loop eE=>
               simp only at he;cases FG:f'.upd l (.loop {eE with state:=if aa.isNone then .ready else .done,pending:=aa}) with
               |none=>rw[FG] at he;cases he
               |some jf=>
                rw[FG] at he;have he:some (Ending.returned (.bool aa.isNone),jf)=some (e,H'):=he;simp only[bL,cU] at he;obtain⟨rfl,rfl⟩:=he
                let lr:Array Value:=(cA.params.zip bJ.toArray).foldl (fun tmps (x:Tmp×Value)=>tmps.setIfInBounds x.1 x.2) cA.tmps
                have UA:hI μ T r.n lr:=by
                 have aA:lr=(r.params.zip bJ).foldl (fun tmps (x:Tmp×Value)=>tmps.setIfInBounds x.1 x.2) cA.tmps:=by
                  show(cA.params.zip bJ.toArray).foldl _ _=_;rw[<-Array.foldl_toList,Array.toList_zip,c5]
                 rw[aA];exact cw
                refine⟨_,cA.fn,lr,cA.assign,cA.body,rfl,?_,?_⟩
                ·have de:bJ.toArray.size=cA.params.size:=by
                  have:cA.params.size=cA.params.toList.length:=by simp
                  rw[this,c5];simpa using hlen.symm
                 have BL:bJ.length=cA.params.size:=by simpa using de
                 simp[Instr.yield,Instr.getLoop,getObj,Sem.run,gI,BL,lr]
                ·intro caller cs
                 let h8:Frame:=Frame.round L.r cA.fn lr cA.assign cA.body .normal
                 have hY:h8=bj h8 lr [] [.code cA.assign,.beginRound,.code cA.body]:=rfl
                 have cg:fZ μ ⟨T,r.n,[],false,.run,some l⟩ h8 lr [] (caller::cs):=
                  ⟨UA,.nil,rfl,(fun q=>by cases q),(fun l' q=>by injection q with q;subst q;exact⟨L,bD,rfl⟩),(fun q=>by cases q)⟩
                 have bE:=r6 r.assign _ H .normal aY H1 aK μ w h8 lr [] (caller::cs) [.beginRound,.code cA.body] (.code r.assign) h cg (.inl rfl);rw[<-dM,<-hY] at bE;obtain⟨d',bc,t1,d1,eP,rJ,s1⟩:=bE;have Tv:eP=caller::cs:=rJ.c;subst Tv;have EB:d' l=some L:=rJ.iR.ext _ _ bD;obtain⟨pV,Uf,Ug⟩:=zp rJ.h EB By;obtain⟨p1,p2,p3,u0,nR,z8,Hp⟩:=Ug;have Kq:H1.bf<=l:=by rw[rJ.iR.bf];exact ar
                 obtain⟨O7,Im⟩:=Hl (pV:={pV with state:=.busy}) rJ.h EB Kq By hu ⟨rfl,p2,p3,u0,nR,z8,Hp⟩;have s2:step P (lone (bj h8 t1 d1 [.beginRound,.code cA.body]) (caller::cs) bc)=.next (lone (bj h8 t1 d1 [.code cA.body]) (caller::cs) {bc with heap:=bc.heap.setIfInBounds L.r (.loop {pV with state:=.busy})}):=by
                  refine YA rfl ?_;have:pV.state=.ready:=p1.trans dA;simp[Instr.beginRound,Instr.getLoop,getObj,setObj,Sem.run,Uf,this]
                 have dj:=r6 r.body aY bG fh Il f' af d' _ h8 t1 d1 (caller::cs) [] (.code r.body) O7 rJ.f (.inl rfl);rw[<-fF] at dj;have vP:aY.bu=false:=rJ.bu
                 --rk round ends
                 have fin:∀(kU:bm) (dX:World) (t3:Array Value) (d3:List Deferred) (pa:List Frame) (todo:List Item),Reached P B w0 d' bG aY h8 (caller::cs) Il f' kU dX t3 d3 pa->
                  (∀v l8,(Instr.endRound L.r aa).run P dX=.ok v l8->step P (lone (bj h8 t3 d3 todo) (caller::cs) dX)=.next (lone (caller.finish v) cs l8))->
                  Steps P (lone (bj h8 t1 d1 [.code cA.body]) (caller::cs) {bc with heap:=bc.heap.setIfInBounds L.r (.loop {pV with state:=.busy})}) (lone (bj h8 t3 d3 todo) pa dX)->
                  ∃v' aZ a4,bz P B w0 a4 jf aZ/\Step μ a4 H jf/\a3 a4 (.bool aa.isNone) v'/\Steps P (lone h8 (caller::cs) w) (lone (caller.finish v') cs aZ):=by
                  intro kU dX t3 d3 pa todo m6 b2 iP;have Tw:pa=caller::cs:=by have:=m6.c;rw[vP] at this;exact this
                  subst Tw;have yu:kU l=some L:=m6.iR.ext _ _ EB;obtain⟨wY,Fo,Fp⟩:=zp m6.h yu qI;obtain⟨dw,dZ,z',Aa,CZ,Ab,Ac⟩:=Fp;have EW:f'.bf<=l:=by rw[m6.iR.bf,Im.bf];exact Kq
                  obtain⟨Dh,Di⟩:=Hl (pV:={wY with state:=if aa.isNone then .ready else .done,pending:=aa}) m6.h yu EW qI FG ⟨rfl,rfl,z',Aa,CZ,Ab,Ac⟩;refine⟨.bool aa.isNone,_,kU,Dh,((rJ.iR.trans Im).trans m6.iR).trans Di,.atom _ rfl,?_⟩;refine(s1.trans (.head s2 iP)).trans (.one (b2 _ _ ?_));simp[Instr.endRound,Instr.getLoop,getObj,setObj,Sem.run,Fo]
                 cases fh with
                 |normal=>
                  injection aX with aX;subst aX
                  obtain⟨kU,dX,t3,d3,pa,m6,iP⟩:=dj;exact fin kU dX t3 d3 pa [] m6 (fun v l8 q=>YJ rfl rfl q) iP
                 |ret=>
                  injection aX with aX;subst aX
                  obtain⟨kU,dX,t3,d3,pa,bI,m6,iP⟩:=dj;exact fin kU dX t3 d3 pa _ m6 (fun v l8 q=>YL rfl rfl q) iP
                 |exit id=>
                  injection aX with aX;subst aX
                  obtain⟨kU,dX,t3,d3,pa,bI,m6,ex,iP⟩:=dj;exact fin kU dX t3 d3 pa _ m6 (fun v l8 q=>YK rfl rfl (ex.trans rfl) q) iP
                 |goto l=>cases aX
                 |panic c=>cases aX
                 |outgrown=>cases aX
              |_=>cases he
         |done=>simp only[dA] at he;cases he
         |busy=>simp only[dA] at he;cases he
         |exhausted=>simp only[dA] at he;cases he
        |_=>cases he
      |_=>cases he
  |_=>cases he
end
end
end Go.Cre
namespace Go.Cre
noncomputable section
open Go.RowKit
section
variable {P:Program}{B:Nat->Prop}{w0 w aZ:World}{μ d' a4:bm}{H H1 H':ah}{S aY aB:aO}{fr:Frame}{tmps:Array Value}{ds:List Deferred}{cs eP:List Frame}{k:List Item}
theorem MU{f:Operand}{l:Nat}{fn:Fn}{a b:Array Value}(aD:cB tmps f=.func fn a b):
 resolve (cB tmps) {callee:=.value f,args:=#[.const (.func (.yield l) #[] #[])],argTypes:=#[]} 0=pure {target:=.fn fn b,args:=a.push (.func (.yield l) #[] #[])}:=by
 have e:#[Operand.const (.func (.yield l) #[] #[])].map (cB tmps)=#[.func (.yield l) #[] #[]]:=by simp[cB]
 simp only[resolve,e,aD,Deferred.ofValue];simp
theorem YO{f:Operand}{params:Array Tmp}{assign body:Code}{l:Nat}{mark:List Deferred}{bc b6:World}{fn:Fn}{a b args:Array Value}{g:FuncId}
 (ap:(Instr.enterLoop fr.fn tmps params assign body fr.roundOf).run P w=.ok (l,mark) bc)(aD:cB tmps f=.func fn a b)(aq:(invoke (.fn fn b) (a.push (.func (.yield l) #[] #[]))).run P bc=.ok (.enter g args) b6):
 step P (lone (bj fr tmps ds (.code (.rangeFunc f params assign body)::k)) cs w)=.next (lone (Frame.enter P g args .normal) (bj fr tmps (mark++ds) (.inRangeFunc l::k)::cs) b6):=by
 have he:=Bd (fr:=fr) (tmps:=tmps) (ds:=mark++ds) (.inRangeFunc l::k);simp only[bj] at he;refine step_lone_go ?_;simp only[stepG,stepG.exec,bj,Sem.runT_eq,ap,GStep.bare_after,he,MU aD,pure_bind];simp[stepG.apply,aq]
theorem YP{f:Operand}{params:Array Tmp}{assign body:Code}{l:Nat}{mark:List Deferred}{bc b6:World}{fn:Fn}{a b:Array Value}{v:Value}
 (ap:(Instr.enterLoop fr.fn tmps params assign body fr.roundOf).run P w=.ok (l,mark) bc)(aD:cB tmps f=.func fn a b)(aq:(invoke (.fn fn b) (a.push (.func (.yield l) #[] #[]))).run P bc=.ok (.value v) b6):
 step P (lone (bj fr tmps ds (.code (.rangeFunc f params assign body)::k)) cs w)=.next (lone (bj fr tmps (mark++ds) (.endRangeFunc l::k)) cs b6):=by
 have he:=Bd (fr:=fr) (tmps:=tmps) (ds:=mark++ds) (.inRangeFunc l::k);simp only[bj] at he;refine step_lone_go ?_;simp only[stepG,stepG.exec,bj,Sem.runT_eq,ap,GStep.bare_after,he,MU aD,pure_bind];simp[stepG.apply,aq,Frame.finish]
theorem YN{l:Nat}{jump:Option Code}(ap:(Instr.endLoop l).run P w=.ok jump aZ):
 step P (lone (bj fr tmps ds (.endRangeFunc l::k)) cs w)=.next (lone (bj fr tmps ds ((jump.map Item.code).toList++k)) cs aZ):=
 step_lone_go (by simp[stepG,stepG.exec,bj,ap])
theorem X0(h:bz P B w0 μ H w)(ay:fZ μ S fr tmps ds cs){d:Nat}{eD:List Deferred}(he:CA S H=some (d,eD,H1)){params:Array Tmp}{assign body:Code}{l:Nat}{bG:ah}
 (aE:H1.new (.loop {state:=.ready,pending:=none,T:=S.T,n:=S.n,params:=params.toList,assign:=assign,body:=body,fN:=d})=some (l,bG)):
 ∃g8 b6 mark L,(Instr.enterLoop fr.fn tmps params assign body fr.roundOf).run P w=.ok (L.r,mark) b6/\bz P B w0 g8 bG b6/\Step μ g8 H bG/\g8 l=some L/\nU g8 eD (mark++ds)/\bG.bf<=l:=by
 --rk loop acg,from rk block for rk deferred calls on
 have fin:∀(d':bm) (bc:World) (mark:List Deferred) (fL:Loc),bz P B w0 d' H1 bc->Step μ d' H H1->d' d=some fL->nU d' eD (mark++ds)->
  (Instr.enterLoop fr.fn tmps params assign body fr.roundOf).run P w=.ok (bc.heap.size,mark) (bc.alloc (.loop {state:=.ready,pending:=none,fn:=fr.fn,tmps:=tmps,params:=params,assign:=assign,body:=body,defers:=fL.r}))->
  ∃g8 b6 mark L,(Instr.enterLoop fr.fn tmps params assign body fr.roundOf).run P w=.ok (L.r,mark) b6/\bz P B w0 g8 bG b6/\Step μ g8 H bG/\g8 l=some L/\nU g8 eD (mark++ds)/\bG.bf<=l:=by
  intro d' bc mark fL U s1 ax eb e4;have hX:=U.pj ⟨bc.heap.size,0,0⟩
  obtain⟨cM,gz,aw⟩:=U.made (o:=.loop {state:=.ready,pending:=none,fn:=fr.fn,tmps:=tmps,params:=params,assign:=assign,body:=body,defers:=fL.r}) (L:=⟨bc.heap.size,0,0⟩) aE rfl rfl
   ⟨rfl,rfl,rfl,rfl,rfl,(ay.t.mono s1.ext).mono hX,fL,hX _ _ ax,rfl⟩
  subst aw;refine⟨_,_,mark,⟨bc.heap.size,0,0⟩,e4,cM,s1.trans gz,bm.hC _ _ _,eb.mono hX,?_⟩;rw[gz.bf];exact U.hV
 unfold CA at he;cases BI:S.b3 with
 |some l0=>
  rw[BI] at he;simp only at he;cases hm:H.mem.get l0 with
  |none=>rw[hm] at he;cases he
  |some b=>
   rw[hm] at he;cases b with
   |loop wX=>
    simp only[bL,cU] at he;obtain⟨rfl,rfl,rfl⟩:=he;obtain⟨aaH,S5,Um⟩:=ay.uM l0 BI;obtain⟨acI,gI,gW⟩:=zp h S5 hm;obtain⟨bV,b7,c5,dM,fF,gp,bn,kG,lH⟩:=gW;refine fin μ w [] bn h (Step.refl _ _) kG ay.d ?_;rw[Um];simp[Instr.enterLoop,Instr.getLoop,getObj,newObj,Sem.run,gI,lH]
   |_=>cases he
 |none=>
  rw[BI] at he;simp only at he;cases j9:H.new (.fN (some [])) with
  |none=>rw[j9] at he;cases he
  |some p=>
   obtain⟨r,lC⟩:=p;rw[j9] at he;simp only[bL,cU] at he;obtain⟨rfl,rfl,rfl⟩:=he;obtain⟨cM,gz,aw⟩:=h.made (o:=.deferred (some [])) (L:=⟨w.heap.size,0,0⟩) j9 rfl rfl ⟨rfl,.inl rfl⟩;subst aw;refine fin _ _ [{target:=.collected w.heap.size,args:=#[]}] ⟨w.heap.size,0,0⟩ cM gz (bm.hC _ _ _) (.cons _ _ _ _ (.inr ⟨H.av,⟨w.heap.size,0,0⟩,rfl,bm.hC _ _ _,rfl⟩) (ay.d.mono gz.ext)) ?_;rw[ay.pW BI];simp[Instr.enterLoop,newObj,Sem.run]
theorem MO{E:eC}(gG:lA P B w0 E.call):Ih P B w0 E:=by
 intro f params assign body S H e aB H' he μ w fr tmps ds cs k h ay;unfold A' at he;cases dA:CA S H with
 |none=>rw[dA] at he;cases he
 |some p=>
  obtain⟨d,eD,H1⟩:=p;rw[dA] at he;simp only at he;cases aE:H1.new (.loop {state:=.ready,pending:=none,T:=S.T,n:=S.n,params:=params.toList,assign:=assign,body:=body,fN:=d}) with
  |none=>rw[aE] at he;cases he
  |some p=>
   obtain⟨l,bG⟩:=p;rw[aE] at he;simp only at he;obtain⟨g8,b6,mark,L,aQ,aP,bC,dp,gi,iO⟩:=X0 h ay dA aE;have r4:fZ g8 {S with ds:=eD} fr tmps (mark++ds) cs:=by
    have:=ay.mono bC.ext;exact⟨this.t,gi,this.kind,this.pW,this.uM,this.a7⟩
   have aaI:Reached P B w0 μ H S fr cs {S with ds:=eD} bG g8 b6 tmps (mark++ds) cs:=⟨aP,bC,r4,hF.refl _ _ ay.pu,rfl,rfl⟩;cases dd:aR S.T bG f with
   |none=>rw[dd] at he;cases he
   |some h9=>
    rw[dd] at he;have hY:=oM aP r4.t (T:=S.T) dd;cases h9 with
    |func fn first captured=>
     have he:(match ji P bG fn (first.toList++[.func (.yield l) #[] #[]]) captured.toList with|none=>none|some (g,ca)=>MM {S with ds:=eD} l (E.body g ca false .run bG))=some (e,aB,H'):=he
     cases fo:ji P bG fn (first.toList++[.func (.yield l) #[] #[]]) captured.toList with
     |none=>rw[fo] at he;cases he
     |some p=>
      obtain⟨g,ca⟩:=p;rw[fo] at he;simp only at he;rcases hY.vH with⟨bA,b',aD,pA,U,ab⟩|⟨l',bn,rfl,_,rfl,rfl,aD⟩
      ·have aC:bp g8 [Value.func (.yield l) #[] #[]] [Value.func (.yield L.r) #[] #[]]:=bp.cons (.yield l L dp) (bp.nil _);obtain⟨hq,bP,bS⟩:=D3 (w:=b6) (U.append aC) ab fo;have Io:(invoke (.fn fn b') (bA.push (.func (.yield L.r) #[] #[]))).run P b6=(callFunc g hq.toArray).run P b6:=by
        rw[<-bP];have aA:(bA.toList++[Value.func (.yield L.r) #[] #[]]).toArray=bA.push (.func (.yield L.r) #[] #[]):=by apply mZ;simp
        have aW:b'.toList.toArray=b':=by simp
        rw[aA,aW]
       cases af:E.body g ca false .run bG with
       |none=>rw[af] at he;cases he
       |some p=>
        obtain⟨x,a7,f'⟩:=p;rw[af] at he;have aF:E.call g ca bG=some (x,f'):=by unfold eC.call;rw[af]
        --rk acu end
        have fin:∀(kU:bm) (dX:World) (v:Value),x=.returned v->bz P B w0 kU f' dX->Step g8 kU bG f'->Steps P (lone (bj fr tmps ds (.code (.rangeFunc f params assign body)::k)) cs w) (lone (bj fr tmps (mark++ds) (.endRangeFunc L.r::k)) cs dX)->
         iS P B w0 μ H S fr cs (lone (bj fr tmps ds (.code (.rangeFunc f params assign body)::k)) cs w) k aB H' e:=by
         intro kU dX v j aV iP ag;subst j;have he:GJ {S with ds:=eD} l f'=some (e,aB,H'):=he;unfold GJ at he;cases qI:f'.mem.get l with
         |none=>rw[qI] at he;cases he
         |some b=>
          rw[qI] at he;cases b with
          |loop eE=>
           have yu:kU l=some L:=iP.ext _ _ dp;obtain⟨wY,Fo,Fp⟩:=zp aV yu qI;obtain⟨dw,dZ,z',Aa,CZ,Ab,Ac⟩:=Fp;have EW:f'.bf<=l:=by rw[iP.bf];exact iO
           have sf:eE.state≠.busy/\∃jf,f'.upd l (.loop {eE with state:=.exhausted})=some jf/\MN {S with ds:=eD} eE.pending jf=some (e,aB,H'):=by
            simp only at he;cases ag:eE.state with
            |busy=>simp only[ag] at he;cases he
            |_=>
             simp only[ag] at he;cases hu:f'.upd l (.loop {eE with state:=.exhausted}) with
             |none=>rw[hu] at he;cases he
             |some jf=>rw[hu] at he;exact⟨(fun q=>by cases q),jf,rfl,he⟩
           obtain⟨sf,jf,hu,he⟩:=sf;obtain⟨Dh,Di⟩:=Hl (pV:={wY with state:=.exhausted}) aV yu EW qI hu ⟨rfl,dZ,z',Aa,CZ,Ab,Ac⟩;have qG:(Instr.endLoop L.r).run P dX=.ok eE.pending {dX with heap:=dX.heap.setIfInBounds L.r (.loop {wY with state:=.exhausted})}:=by
            have jn:¬wY.state=.busy:=by rw[dw];exact sf
            simp[Instr.endLoop,Instr.getLoop,getObj,setObj,Sem.run,Fo,jn,dZ]
           have qP:=ag.trans (.one (YN qG))
           have De:Reached P B w0 μ H S fr cs {S with ds:=eD} jf kU {dX with heap:=dX.heap.setIfInBounds L.r (.loop {wY with state:=.exhausted})} tmps (mark++ds) cs:=
            ⟨Dh,(bC.trans iP).trans Di,r4.mono iP.ext,hF.refl _ _ ay.pu,rfl,rfl⟩
           cases KP:eE.pending with
           |none=>
            rw[KP] at he qP;have he:some (Exit.normal,{S with ds:=eD},jf)=some (e,aB,H'):=he;simp only[bL,cU] at he;obtain⟨rfl,rfl,rfl⟩:=he;exact⟨_,_,_,_,_,De,qP⟩
           |some c=>
            rw[KP] at he qP;cases c with
            |ret=>
             have he:some (Exit.ret,{S with ds:=eD},jf)=some (e,aB,H'):=he;simp only[bL,cU] at he;obtain⟨rfl,rfl,rfl⟩:=he;exact⟨_,_,_,_,_,k,De,qP⟩
            |exit id=>
             have he:some (Exit.exit id,{S with ds:=eD},jf)=some (e,aB,H'):=he;simp only[bL,cU] at he;obtain⟨rfl,rfl,rfl⟩:=he;exact⟨_,_,_,_,_,k,De,rfl,qP⟩
            |_=>cases he
          |_=>cases he
        rcases gG g ca bG x f' aF g8 b6 hq aP bS with⟨ig,v',aZ,a4,aA,aW,cr,dU,b5⟩|⟨aA,aW⟩
        ·exact fin a4 aZ ig aA cr dU (.one (YP aQ aD (Io.trans aW)))
        ·obtain⟨bl,aZ,JD,⟨a4,b4,b0,cI⟩,vT,_,v0⟩:=aW (bj fr tmps (mark++ds) (.inRangeFunc L.r::k)::cs);have Km:=YO (cs:=cs) (k:=k) (ds:=ds) aQ aD (Io.trans aA);cases bl with
         |returned v'=>
          cases x with
          |returned v=>
           refine fin a4 aZ v rfl b4 b0 ?_;have:=step_leave_returned (cs:=cs) (c:=bj fr tmps (mark++ds) (.inRangeFunc L.r::k)) v0;exact .head Km (Steps.trans vT (.one this))
          |panicked c=>exact cI.elim
          |outgrown=>exact cI.elim
         |panicked bo=>
          cases x with
          |returned v=>exact cI.elim
          |outgrown=>exact cI.elim
          |panicked c=>
           have he:some (Exit.panic c,{S with ds:=eD},f')=some (e,aB,H'):=he;simp only[bL,cU] at he;obtain⟨rfl,rfl,rfl⟩:=he;have Ui:=step_leave_panicked (cs:=cs) (c:=bj fr tmps (mark++ds) (.inRangeFunc L.r::k)) v0;refine⟨a4,aZ,tmps,mark++ds,cs,bo,.inRangeFunc L.r::k,⟨b4,bC.trans b0,r4.mono b0.ext,hF.refl _ _ ay.pu,rfl,rfl⟩,cI,?_⟩;exact .head Km (Steps.trans vT (.one Ui))
         |outgrown=>cases x<;>exact cI.elim
      ·cases fo
    |_=>cases he
theorem RY{eo:aL Func}(dN:n1 P eo):∀n,∀(B:Nat->Prop) (w0:World),m0 P B w0 (pi P eo n).code/\oY P B w0 (pi P eo n).body/\lA P B w0 (pi P eo n).call:=by
 intro n;induction n with
 |zero=>
  intro B w0;exact⟨(fun c S H e aB H' he=>by cases he),(fun f args a7 H e eS H' he=>by cases he),(fun f args H e H' he=>by cases he)⟩
 |succ n aN=>
  intro B w0;obtain⟨U,ab,aV⟩:=aN B w0;exact⟨Jr dN.nD U (fun gk gB _ _=>(aN gk gB).2.2) (fun gk gB _ _=>CW (aN gk gB).1) (MO aV),Jo dN U ab,DY dN U ab⟩
theorem RX{eo:aL Func}(dN:n1 P eo)(n:Nat):m0 P B w0 (pi P eo n).code/\oY P B w0 (pi P eo n).body/\lA P B w0 (pi P eo n).call:=RY dN n B w0
end
end
end Go.Cre
namespace Go.Cre
noncomputable section
open Go.RowKit
section
variable {P:Program}{w:World}{H:ah}
structure Laid (P:Program) (w:World) (H:ah):Prop where
 ba:H.ba=.leaf
 av:H.av=H.bf
 rows:∀g b,H.mem.get g=some b->b=.dead\/∃cells e f,b=.row cells e false 0 n9 true/\g<H.bf/\w.heap[g]?=some (.cells cells.toArray e f)/\cells.all plain=true/\cells.length<=n9
def yg (P:Program)(H:ah):bm:=fun g=>match H.mem.get g with
 |some (.row cells e _ _ _ _)=>some ⟨g,cells.length,P.cellsOf e⟩
 |_=>none
theorem R4(h:Laid P w H):bz P (fun k=>k<w.heap.size) w (yg P H) H w:=by
 have inv:∀g L,yg P H g=some L->∃cells e f,H.mem.get g=some (.row cells e false 0 n9 true)/\L=⟨g,cells.length,P.cellsOf e⟩/\g<H.bf/\w.heap[g]?=some (.cells cells.toArray e f)/\cells.all plain=true/\cells.length<=n9:=by
  intro g L q;unfold yg at q;cases hm:H.mem.get g with
  |none=>rw[hm] at q;cases q
  |some b=>
   rw[hm] at q;rcases h.rows g b hm with rfl|⟨cells,e,f,rfl,bP,bS,cE,c4⟩
   ·cases q
   ·injection q with q;subst q
    exact⟨cells,e,f,rfl,rfl,bP,bS,cE,c4⟩
 refine⟨Kept.refl _ _,fun _ hk=>hk,?_,?_,?_,?_,?_,?_,by rw[h.av];exact c9 _,?_,?_,?_⟩
 ·intro g L q;obtain⟨cells,e,f,bP,rfl,cE,c4,cO,ey⟩:=inv g L q;refine⟨_,_,bP,c4,rfl,by simp,rfl,c9 _,fun _=>rfl,fun i v v' x y=>?_,⟨fun off ae _ _=>jZ ae ey,fun q=>by cases q⟩⟩;have:v=v':=by
   rw[OM] at y;rw[x] at y;injection y
  subst this;exact ll (o2.1 cO v (nZ x))
 ·intro x y fL fU dy j aC ap;obtain⟨_,_,_,_,rfl,_⟩:=inv x fL j;obtain⟨_,_,_,_,rfl,_⟩:=inv y fU aC;exact absurd ap dy
 ·intro x L j;obtain⟨_,_,_,_,_,a,_⟩:=inv x L j;rw[h.av];exact a
 ·intro x L j _;obtain⟨_,_,_,_,rfl,_⟩:=inv x L j;rfl
 ·intro x L j ar _;obtain⟨_,_,_,_,_,a,_⟩:=inv x L j;omega
 ·intro g c e o f z s _ hm;exact⟨⟨g,c.length,P.cellsOf e⟩,by unfold yg;rw[hm]⟩
 ·intro x c e f z s hm;rcases h.rows x _ hm with q|⟨_,_,_,q,_⟩<;>cases q
 ·intro f l x aw;rw[h.ba] at aw;cases aw
 ·intro f l aw;rw[h.ba] at aw;cases aw
def isTrue (x:Option (Ending×FrameMode×ah)):Bool:=match x with|some (.returned (.bool b),_,_)=>b|_=>false
theorem Qn{eo:aL Func}(dN:n1 P eo){n:Nat}{f:FuncId}{fn:Func}{c:Code}(ay:P.funcs[f]?=some fn)(af:fn.body=some c)(h:Laid P w H)(he:isTrue ((pi P eo n).body f [] false .run H)=true):
 Calls P f #[] w fun e aZ=>e=.returned (.bool true)/\Below w.heap.size w aZ:=by
 cases ap:(pi P eo n).body f [] false .run H with
 |none=>rw[ap] at he;cases he
 |some p=>
  obtain⟨e,a7,H'⟩:=p;rw[ap] at he;have aF:(pi P eo n).call f [] H=some (e,H'):=by unfold eC.call;rw[ap]
  have ag:=(RX (B:=fun k=>k<w.heap.size) (w0:=w) dN n).2.2 f [] H e H' aF (yg P H) w [] (R4 h) (bp.nil _);rcases ag with⟨v,v',aZ,a4,_,q,_⟩|⟨_,q⟩
  ·rw[x8 ay af (dN.num f fn ay (by rw[af];rfl))] at q;cases q
  ·refine Calls.mono q fun bl aZ ⟨a4,b4,b0,cI⟩=>?_;cases e with
   |returned v=>
    cases v with
    |bool b=>
     have he:b=true:=he;subst he;cases bl with
     |returned v'=>
      have aD:a3 a4 (.bool true) v':=cI;rw[aD.xO];exact⟨rfl,b4.below.below⟩
     |panicked c=>exact cI.elim
     |outgrown=>exact cI.elim
    |_=>cases he
   |panicked c=>cases he
   |outgrown=>cases he
theorem G4{α:Type}:∀{l:List α} {i:Nat} {T dr:aL α},rl l i T=some dr->∀t,dr.get t=if i<=t/\t<i+l.length then l[t -i]? else T.get t:=by
 intro l;induction l with
 |nil=>intro i T dr h t;simp[rl] at h;subst h;rw[a1 (by rw[At];omega)]
 |cons v l aN=>
  intro i T dr h t;simp only[rl] at h;cases ag:aL.set w7 T i v with
  |none=>rw[ag] at h;cases h
  |some rL=>
   rw[ag] at h;rw[aN h t,aL.Ek ag];by_cases U:i+1<=t/\t<i+1+l.length
   ·rw[bs U,bs (by rw[kY];omega)];have:t -i=(t -(i+1))+1:=by omega
    rw[this];rfl
   ·rw[a1 U];by_cases ab:t=i
    ·subst ab;rw[bs rfl,bs (by simp)];simp
    ·rw[a1 ab,a1 (by rw[kY];omega)]
def vE (P:Program):aL Func:=match rl P.funcs.toList 0 .leaf with|some t=>t|none=>.leaf
def Gq (P:Program):Bool:=P.funcs.toList.all fun fn=>fn.body.isNone||!(fn.name== "runtime.NumGoroutine")
theorem Mz(hm:P.follows .mixedOrders=true)(aE:Gq P=true):n1 P (vE P):=by
 refine⟨hm,fun f fn h=>?_,fun f fn ay af=>?_⟩
 ·unfold vE at h;cases aG:rl P.funcs.toList 0 .leaf with
  |none=>rw[aG] at h;cases h
  |some t=>
   rw[aG] at h;rw[G4 aG] at h;split at h
   ·simpa using h
   ·cases h
 ·unfold Gq at aE;rw[o2] at aE;have:=aE fn (by simpa using Af ay);cases j5:fn.body with
  |none=>rw[j5] at af;cases af
  |some c=>simpa[j5] using this
def lay (T:aL ef):List (Nat×TypeId×List Value)->aL ef
 |[]=>T
 |(g,e,cells)::l=>match aL.put (.row cells e false 0 n9 true) (lay T l) g with
  |some dr=>dr
  |none=>lay T l
theorem VF{T:aL ef}:∀{l:List (Nat×TypeId×List Value)} {g:Nat} {b:ef},(lay T l).get g=some b->T.get g=some b\/∃e cells,(g,e,cells)∈l/\b=.row cells e false 0 n9 true:=by
 intro l;induction l with
 |nil=>intro g b h;exact .inl h
 |cons x l aN=>
  intro g b h;obtain⟨JF,e,cells⟩:=x;simp only[lay] at h;cases ao:aL.put (ef.row cells e false 0 n9 true) (lay T l) JF with
  |none=>
   rw[ao] at h;rcases aN h with q|⟨bl,bo,aQ,aP⟩
   ·exact .inl q
   ·exact .inr ⟨bl,bo,by simp[aQ],aP⟩
  |some dr=>
   rw[ao] at h;simp only at h;rw[aL.get_put ao] at h;by_cases ar:g=JF
   ·subst ar;rw[bs rfl] at h;injection h with h
    exact .inr ⟨e,cells,by simp,h.symm⟩
   ·rw[a1 ar] at h;rcases aN h with q|⟨bl,bo,aQ,aP⟩
    ·exact .inl q
    ·exact .inr ⟨bl,bo,by simp[aQ],aP⟩
def Jz (n d:Nat)(l:List (Nat×TypeId×List Value)):ah:=⟨lay (aL.full .dead d) l,n,.leaf,0,n⟩
theorem VB{n d:Nat}{l:List (Nat×TypeId×List Value)}(h:∀g e cells,(g,e,cells)∈l->g<n/\(∃f,w.heap[g]?=some (.cells cells.toArray e f))/\cells.all plain=true/\cells.length<=n9):Laid P w (Jz n d l):=by
 refine⟨rfl,rfl,fun g b af=>?_⟩;rcases VF af with q|⟨e,cells,aQ,aP⟩
 ·rcases aL.JL ef.dead d g with r|r
  ·rw[r] at q;cases q
  ·rw[r] at q;injection q with q;exact .inl q.symm
 ·obtain⟨bP,⟨f,bS⟩,cE,c4⟩:=h g e cells aQ;exact .inr ⟨cells,e,f,aP,bP,bS,cE,c4⟩
end
end
end Go.Cre
namespace Go.Cre
noncomputable section
open Go.ChangeShapes
theorem Lv{P:Program}{W:World}{name:String}{k:IntKind}{fc:List Int}{g:Nat}{t:TypeId}(ar:P.globalNamed name=some g)(cx:g<P.globals.size)
 (ap:(((begin P (fun _ _=>0) default).world.heap[g]?).bind Obj.row?).map (·.2)=some t)(ag:W.ShapedOpen P)(aG:Lib.TabIs P W name k fc):∃f,W.heap[g]?=some (.cells (fc.map fun z=>Value.int k z).toArray t f):=by
 obtain⟨⟨zero,ix⟩,U,ab⟩:=xG.1 ap;simp only at ab;subst ab;obtain⟨cs,a,_⟩:=ag.1 g zero ix cx U;unfold Lib.TabIs World.var? at aG;rw[ar] at aG;simp only[Ib,a,bL] at aG;subst aG;exact⟨_,a⟩
end
end Go.Cre
namespace Go.Cre
noncomputable section
open Go.RowKit
section
variable {P:Program}{B:Nat->Prop}{w0 w:World}{μ:bm}{H:ah}{S:aO}{fr:Frame}{tmps:Array Value}{ds:List Deferred}{cs:List Frame}
end
end
end Go.Cre
namespace Go.Cre
noncomputable section
open Go.RowKit
section
variable {P:Program}{B:Nat->Prop}{w0 w aZ:World}{μ:bm}{H H0:ah}
theorem bz.grow(h:bz P B w0 μ H w)(af:Below w.heap.size w aZ):bz P B w0 μ H aZ:=by
 have cx:∀x bn,μ x=some bn->bn.r<w.heap.size:=fun x bn j=>by
  obtain⟨b',o',_,ae,_⟩:=h.eG x bn j;rcases gX bn.r w.heap.size with cF|cF
  ·exact cF
  ·rw[nS cF] at ae;cases ae
 refine⟨h.below.trans (.WD af h.kj),fun k hk=>jZ (h.kj k hk) af.size,fun x L j=>?_,h.sep,h.lt,h.own,h.new,h.oa,h.hV,h.mu,h.im,h.pk⟩;obtain⟨b,o,U,ab,aV⟩:=h.eG x L j;exact⟨b,o,U,by rw[af.block _ (cx x L j)];exact ab,aV⟩
def Ar(H0:ah)(B:Nat->Prop):Prop:=∀g b,H0.mem.get g=some b->b≠.dead->B g
theorem Laid.eN{B:Nat->Prop}(h:Laid P w0 H0)(fm:Ar H0 B)(hk:Kept B w0 w):Laid P w H0:=by
 refine⟨h.ba,h.av,fun g b ar=>?_⟩;rcases h.rows g b ar with q|⟨cells,e,f,aQ,aP,bC,dp,gi⟩
 ·exact .inl q
 ·exact .inr ⟨cells,e,f,aQ,aP,by rw[hk.block g (fm g b ar (by rw[aQ];intro q;cases q))];exact bC,dp,gi⟩
theorem Laid.U6(h:Laid P w0 H0):Ar H0 (fun k=>k<w0.heap.size):=fun g b ar af=>by
 rcases h.rows g b ar with q|⟨cells,e,f,aQ,aP,bC,dp,gi⟩
 ·exact absurd q af
 ·exact(C3.1 bC).1
def ax:Code->Code
 |.seq a _=>a
 |c=>c
end
end
end Go.Cre
namespace Go.Cre
noncomputable section
end
end Go.Cre

/- A part of the proof of TableClose. -/
import Derived.Test.YtpahonhejmlnpaaGreatDoorCap
import Derived.ChangeSame
import Derived.Lib.LaidTab
set_option linter.unusedVariables false
set_option linter.unusedSimpArgs false
namespace Go.Cre
noncomputable section
open Go.RowKit
section
variable {P:Program}{B:Nat->Prop}{w0 w a7:World}{μ eE bd:bz}{H H1 H':ai}{S a1 aB:aT}{fr:Frame}{tmps:Array Value}{ds:List Deferred}{cs fs:List Frame}{k:List Item}
theorem acb{n:Nat}:∀{ps:List Tmp} {args b5:List Value} {T di:aQ Value} {tmps:Array Value},qw T ps args=some di->bF μ args b5->iE μ T n tmps->q3 n ps=true->
 ps.length=b5.length/\iE μ di n ((ps.zip b5).foldl (fun tmps (x:Tmp×Value)=>tmps.setIfInBounds x.1 x.2) tmps):=by
 intro ps;induction ps with
 |nil=>
  intro args b5 T di tmps he aA aM _;cases args with
  |nil=>
   obtain rfl:=aA.ji;simp[qw] at he;subst he;exact⟨rfl,aM⟩
  |cons=>simp[qw] at he
 |cons t ps aP=>
  intro args b5 T di tmps he aA aM ah;cases args with
  |nil=>simp[qw] at he
  |cons v args=>
   obtain⟨v',l',rfl,aa,ab⟩:=aA.hO;simp only[qw] at he;simp only[q3,fp] at ah;have cD:t<n:=gy ah.1;cases af:aQ.set yQ T t v with
   |none=>rw[af] at he;cases he
   |some nj=>
    rw[af] at he;have AM:iE μ nj n (tmps.setIfInBounds t v'):=by
     refine⟨by simpa using aM.1,fun x u q=>?_⟩;rw[aQ.GQ af] at q;by_cases U:x=t
     ·subst U;rw[bg rfl] at q;injection q with q;subst q
      have:(tmps.setIfInBounds x v').getD x undef=v':=by
       have:x<tmps.size:=jL cD aM.1;simp[this]
      rw[this];exact aa
     ·rw[a3 U] at q;have:(tmps.setIfInBounds t v').getD x undef=tmps.getD x undef:=by
       simp[KE (Ne.symm U)]
      rw[this];exact aM.2 x u q
    obtain⟨a,b⟩:=aP he ab AM ah.2;exact⟨by simp[a],b⟩
theorem adt{l:Nat}{v:Value}{c:Frame}(al:fr.roundOf=some l)(hk:fr.kind=.normal)(fK:(Instr.endRound l none).run P w=.ok v a7):
 step P (lone (bt fr tmps ds []) (c::cs) w)=.next (lone (c.finish v) cs a7):=step_lone_go (by simp[stepG,stepG.exec,bt,al,fK,doReturn,hk])
theorem adv{l:Nat}{v:Value}{c:Frame}(al:fr.roundOf=some l)(hk:fr.kind=.normal)(fK:(Instr.endRound l (some .ret)).run P w=.ok v a7):
 step P (lone (bt fr tmps ds (.code .ret::k)) (c::cs) w)=.next (lone (c.finish v) cs a7):=step_lone_go (by simp[stepG,stepG.exec,bt,al,fK,doReturn,hk])
theorem adu{l id:Nat}{v:Value}{c:Frame}(al:fr.roundOf=some l)(hk:fr.kind=.normal)(he:exitTo id k=none)(fK:(Instr.endRound l (some (.exit id))).run P w=.ok v a7):
 step P (lone (bt fr tmps ds (.code (.exit id)::k)) (c::cs) w)=.next (lone (c.finish v) cs a7):=step_lone_go (by simp[stepG,stepG.exec,bt,al,he,fK,doReturn,hk])
theorem adk{l:Nat}(al:fr.roundOf=some l)(fK:(Instr.beginRound l).run P w=.ok () a7):
 step P (lone (bt fr tmps ds (.beginRound::k)) cs w)=.next (lone (bt fr tmps ds k) cs a7):=step_lone_go (by simp[stepG,stepG.exec,stepG.apply,bt,al,fK,Frame.finish])
theorem A'(h:bL P B w0 μ H w){l:Nat}{L:Loc}{r:mm}(bP:μ l=some L)(hm:H.mem.get l=some (.loop r)):
 ∃cg,w.heap[L.r]?=some (.loop cg)/\ia P μ L (.loop r) (.loop cg):=by
 obtain⟨b,o,aR,aN,bG⟩:=h.e6 l L bP;rw[hm] at aR;injection aR with aR;subst aR
 cases o with
 |loop cg=>exact⟨cg,aN,bG⟩
 |_=>exact bG.elim
theorem Kq(h:bL P B w0 μ H w){l:Nat}{L:Loc}{r cX:mm}{rX:Loop}(bP:μ l=some L)(aq:H.bp<=l)(hm:H.mem.get l=some (.loop r))(hu:H.upd l (.loop cX)=some H')(ah:ia P μ L (.loop cX) (.loop rX)):
 bL P B w0 μ H' {w with heap:=w.heap.setIfInBounds L.r (.loop rX)}/\Step μ μ H H':=
 h.RY bP aq hm (fun _ _ _ _ _ _ q=>by cases q) (fun q=>by cases q) hu (fun _ _ _ _ _ _ q=>by cases q) ah
theorem E0{E:eT}(tU:oH P B w0 E.code):tA P B w0 E.aE:=by
 intro l args H e H' he μ w L b5 h bP aA;unfold eT.aE at he;cases hm:H.mem.get l with
 |none=>rw[hm] at he;cases he
 |some b=>
  rw[hm] at he;cases b with
  |loop r=>
   simp only at he;cases aL:(Nat.ble H.bp l&&q3 r.n r.params) with
   |false=>rw[aL] at he;cases he
   |true=>
    rw[aL,b1] at he;simp only[fp] at aL;have aq:=gy aL.1;obtain⟨cg,gK,gT⟩:=A' h bP hm;obtain⟨br,bN,cW,dj,eU,eP,bC,jM,j5⟩:=gT;cases ao:qw r.T r.params args with
    |none=>rw[ao] at he;cases he
    |some T=>
     rw[ao] at he;have he:Kw E l r.body (E.code r.assign ⟨T,r.n,[],false,.run,some l⟩ H)=some (e,H'):=he;obtain⟨hlen,b6⟩:=acb ao aA eP aL.2;cases aK:E.code r.assign ⟨T,r.n,[],false,.run,some l⟩ H with
     |none=>rw[aK] at he;cases he
     |some p=>
      obtain⟨fy,a1,H1⟩:=p;rw[aK] at he;cases fy with
      |normal=>
       have he:B1 E l r.body a1 H1=some (e,H'):=he;unfold B1 at he;cases Du:H1.mem.get l with
       |none=>rw[Du] at he;cases he
       |some b=>
        rw[Du] at he;cases b with
        |loop cX=>
         simp only at he;cases dM:cX.state with
         |ready=>
          simp only[dM] at he;cases hu:H1.upd l (.loop {cX with state:=.busy}) with
          |none=>rw[hu] at he;cases he
          |some bK=>
           rw[hu] at he;have he:Kx l (E.code r.body a1 bK)=some (e,H'):=he;cases ah:E.code r.body a1 bK with
           |none=>rw[ah] at he;cases he
           |some p=>
            obtain⟨fF,Cs,fi⟩:=p;rw[ah] at he;have he:(match yp fF with|some j=>wS fi l j|none=>none)=some (e,H'):=he
            cases a5:yp fF with
            |none=>rw[a5] at he;cases he
            |some j=>
             rw[a5] at he;have he:wS fi l j=some (e,H'):=he;unfold wS at he;cases sO:fi.mem.get l with
             |none=>rw[sO] at he;cases he
             |some b=>
              rw[sO] at he;cases b with
              |loop fo=>
               simp only at he;cases Ip:fi.upd l (.loop {fo with state:=if j.isNone then .ready else .done,pending:=j}) with
               |none=>rw[Ip] at he;cases he
               |some iB=>
                rw[Ip] at he;have he:some (Ending.returned (.bool j.isNone),iB)=some (e,H'):=he;simp only[b9,c'] at he;obtain⟨rfl,rfl⟩:=he
                let m8:Array Value:=(cg.params.zip b5.toArray).foldl (fun tmps (x:Tmp×Value)=>tmps.setIfInBounds x.1 x.2) cg.tmps
                have YU:iE μ T r.n m8:=by
                 have aC:m8=(r.params.zip b5).foldl (fun tmps (x:Tmp×Value)=>tmps.setIfInBounds x.1 x.2) cg.tmps:=by
                  show(cg.params.zip b5.toArray).foldl _ _=_;rw[<-Array.foldl_toList,Array.toList_zip,cW]
                 rw[aC];exact b6
                refine⟨_,cg.fn,m8,cg.assign,cg.body,rfl,?_,?_⟩
                ·have dA:b5.toArray.size=cg.params.size:=by
                  have:cg.params.size=cg.params.toList.length:=by simp
                  rw[this,cW];simpa using hlen.symm
                 have DL:b5.length=cg.params.size:=by simpa using dA
                 simp[Instr.yield,Instr.getLoop,getObj,Sem.run,gK,DL,m8]
                ·intro caller cs
                 let jc:Frame:=Frame.round L.r cg.fn m8 cg.assign cg.body .normal
                 have iQ:jc=bt jc m8 [] [.code cg.assign,.beginRound,.code cg.body]:=rfl
                 have bY:gO μ ⟨T,r.n,[],false,.run,some l⟩ jc m8 [] (caller::cs):=
                  ⟨YU,.nil,rfl,(fun q=>by cases q),(fun l' q=>by injection q with q;subst q;exact⟨L,bP,rfl⟩),(fun q=>by cases q)⟩
                 have bn:=tU r.assign _ H .normal a1 H1 aK μ w jc m8 [] (caller::cs) [.beginRound,.code cg.body] (.code r.assign) h bY (.inl rfl);rw[<-dj,<-iQ] at bn;obtain⟨eE,bh,t1,d1,fs,ty,s1⟩:=bn;have XA:fs=caller::cs:=ty.c;subst XA;have G':eE l=some L:=ty.jk.ext _ _ bP;obtain⟨rX,H5,YA⟩:=A' ty.h G' Du;obtain⟨ls,lu,y0,y1,qK,EZ,Ku⟩:=YA;have Dm:H1.bp<=l:=by rw[ty.jk.bp];exact aq
                 obtain⟨S3,LB⟩:=Kq (rX:={rX with state:=.busy}) ty.h G' Dm Du hu ⟨rfl,lu,y0,y1,qK,EZ,Ku⟩;have s2:step P (lone (bt jc t1 d1 [.beginRound,.code cg.body]) (caller::cs) bh)=.next (lone (bt jc t1 d1 [.code cg.body]) (caller::cs) {bh with heap:=bh.heap.setIfInBounds L.r (.loop {rX with state:=.busy})}):=by
                  refine adk rfl ?_;have:rX.state=.ready:=ls.trans dM;simp[Instr.beginRound,Instr.getLoop,getObj,setObj,Sem.run,H5,this]
                 have cZ:=tU r.body a1 bK fF Cs fi ah eE _ jc t1 d1 (caller::cs) [] (.code r.body) S3 ty.f (.inl rfl);rw[<-eU] at cZ;have xK:a1.bB=false:=ty.bB
                 --tj round ends
                 have fin:∀(ml:bz) (dD:World) (t3:Array Value) (d3:List Deferred) (q9:List Frame) (todo:List Item),Reached P B w0 eE bK a1 jc (caller::cs) Cs fi ml dD t3 d3 q9->
                  (∀v lS,(Instr.endRound L.r j).run P dD=.ok v lS->step P (lone (bt jc t3 d3 todo) (caller::cs) dD)=.next (lone (caller.finish v) cs lS))->
                  Steps P (lone (bt jc t1 d1 [.code cg.body]) (caller::cs) {bh with heap:=bh.heap.setIfInBounds L.r (.loop {rX with state:=.busy})}) (lone (bt jc t3 d3 todo) q9 dD)->
                  ∃v' a7 bd,bL P B w0 bd iB a7/\Step μ bd H iB/\bc bd (.bool j.isNone) v'/\Steps P (lone jc (caller::cs) w) (lone (caller.finish v') cs a7):=by
                  intro ml dD t3 d3 q9 todo oP bT h';have XB:q9=caller::cs:=by have:=oP.c;rw[xK] at this;exact this
                  subst XB;have z':ml l=some L:=oP.jk.ext _ _ G';obtain⟨yI,H6,H7⟩:=A' oP.h z' sO;obtain⟨dE,ej,y3,y4,E3,B2,B3⟩:=H7;have HA:fi.bp<=l:=by rw[oP.jk.bp,LB.bp];exact Dm
                  obtain⟨FD,FE⟩:=Kq (rX:={yI with state:=if j.isNone then .ready else .done,pending:=j}) oP.h z' HA sO Ip ⟨rfl,rfl,y3,y4,E3,B2,B3⟩;refine⟨.bool j.isNone,_,ml,FD,((ty.jk.trans LB).trans oP.jk).trans FE,.atom _ rfl,?_⟩;refine(s1.trans (.head s2 h')).trans (.one (bT _ _ ?_));simp[Instr.endRound,Instr.getLoop,getObj,setObj,Sem.run,H6]
                 cases fF with
                 |normal=>
                  injection a5 with a5;subst a5
                  obtain⟨ml,dD,t3,d3,q9,oP,h'⟩:=cZ;exact fin ml dD t3 d3 q9 [] oP (fun v lS q=>adt rfl rfl q) h'
                 |ret=>
                  injection a5 with a5;subst a5
                  obtain⟨ml,dD,t3,d3,q9,bJ,oP,h'⟩:=cZ;exact fin ml dD t3 d3 q9 _ oP (fun v lS q=>adv rfl rfl q) h'
                 |exit id=>
                  injection a5 with a5;subst a5
                  obtain⟨ml,dD,t3,d3,q9,bJ,oP,ex,h'⟩:=cZ;exact fin ml dD t3 d3 q9 _ oP (fun v lS q=>adu rfl rfl (ex.trans rfl) q) h'
                 |goto l=>cases a5
                 |panic c=>cases a5
                 |outgrown=>cases a5
              |_=>cases he
         |done=>simp only[dM] at he;cases he
         |busy=>simp only[dM] at he;cases he
         |exhausted=>simp only[dM] at he;cases he
        |_=>cases he
      |_=>cases he
  |_=>cases he
end
end
end Go.Cre
namespace Go.Cre
noncomputable section
open Go.RowKit
section
variable {P:Program}{B:Nat->Prop}{w0 w a7:World}{μ eE bd:bz}{H H1 H':ai}{S a1 aB:aT}{fr:Frame}{tmps:Array Value}{ds:List Deferred}{cs fs:List Frame}{k:List Item}
theorem Qz{f:Operand}{l:Nat}{fn:Fn}{a b:Array Value}(ay:cQ tmps f=.func fn a b):
 resolve (cQ tmps) {callee:=.value f,args:=#[.const (.func (.yield l) #[] #[])],argTypes:=#[]} 0=pure {target:=.fn fn b,args:=a.push (.func (.yield l) #[] #[])}:=by
 have e:#[Operand.const (.func (.yield l) #[] #[])].map (cQ tmps)=#[.func (.yield l) #[] #[]]:=by simp[cQ]
 simp only[resolve,e,ay,Deferred.ofValue];simp
theorem ady{f:Operand}{params:Array Tmp}{assign body:Code}{l:Nat}{mark:List Deferred}{bh cb:World}{fn:Fn}{a b args:Array Value}{g:FuncId}
 (al:(Instr.enterLoop fr.fn tmps params assign body fr.roundOf).run P w=.ok (l,mark) bh)(ay:cQ tmps f=.func fn a b)(ar:(invoke (.fn fn b) (a.push (.func (.yield l) #[] #[]))).run P bh=.ok (.enter g args) cb):
 step P (lone (bt fr tmps ds (.code (.rangeFunc f params assign body)::k)) cs w)=.next (lone (Frame.enter P g args .normal) (bt fr tmps (mark++ds) (.inRangeFunc l::k)::cs) cb):=by
 have he:=C0 (fr:=fr) (tmps:=tmps) (ds:=mark++ds) (.inRangeFunc l::k);simp only[bt] at he;refine step_lone_go ?_;simp only[stepG,stepG.exec,bt,Sem.runT_eq,al,GStep.bare_after,he,Qz ay,pure_bind];simp[stepG.apply,ar]
theorem adz{f:Operand}{params:Array Tmp}{assign body:Code}{l:Nat}{mark:List Deferred}{bh cb:World}{fn:Fn}{a b:Array Value}{v:Value}
 (al:(Instr.enterLoop fr.fn tmps params assign body fr.roundOf).run P w=.ok (l,mark) bh)(ay:cQ tmps f=.func fn a b)(ar:(invoke (.fn fn b) (a.push (.func (.yield l) #[] #[]))).run P bh=.ok (.value v) cb):
 step P (lone (bt fr tmps ds (.code (.rangeFunc f params assign body)::k)) cs w)=.next (lone (bt fr tmps (mark++ds) (.endRangeFunc l::k)) cs cb):=by
 have he:=C0 (fr:=fr) (tmps:=tmps) (ds:=mark++ds) (.inRangeFunc l::k);simp only[bt] at he;refine step_lone_go ?_;simp only[stepG,stepG.exec,bt,Sem.runT_eq,al,GStep.bare_after,he,Qz ay,pure_bind];simp[stepG.apply,ar,Frame.finish]
theorem adx{l:Nat}{jump:Option Code}(al:(Instr.endLoop l).run P w=.ok jump a7):
 step P (lone (bt fr tmps ds (.endRangeFunc l::k)) cs w)=.next (lone (bt fr tmps ds ((jump.map Item.code).toList++k)) cs a7):=
 step_lone_go (by simp[stepG,stepG.exec,bt,al])
theorem acu(h:bL P B w0 μ H w)(az:gO μ S fr tmps ds cs){d:Nat}{eY:List Deferred}(he:BI S H=some (d,eY,H1)){params:Array Tmp}{assign body:Code}{l:Nat}{bK:ai}
 (aw:H1.new (.loop {state:=.ready,pending:=none,T:=S.T,n:=S.n,params:=params.toList,assign:=assign,body:=body,ft:=d})=some (l,bK)):
 ∃hS cb mark L,(Instr.enterLoop fr.fn tmps params assign body fr.roundOf).run P w=.ok (L.r,mark) cb/\bL P B w0 hS bK cb/\Step μ hS H bK/\hS l=some L/\pE hS eY (mark++ds)/\bK.bp<=l:=by
 --tj loop aht,from tj block for tj deferred calls on
 have fin:∀(eE:bz) (bh:World) (mark:List Deferred) (gw:Loc),bL P B w0 eE H1 bh->Step μ eE H H1->eE d=some gw->pE eE eY (mark++ds)->
  (Instr.enterLoop fr.fn tmps params assign body fr.roundOf).run P w=.ok (bh.heap.size,mark) (bh.alloc (.loop {state:=.ready,pending:=none,fn:=fr.fn,tmps:=tmps,params:=params,assign:=assign,body:=body,defers:=gw.r}))->
  ∃hS cb mark L,(Instr.enterLoop fr.fn tmps params assign body fr.roundOf).run P w=.ok (L.r,mark) cb/\bL P B w0 hS bK cb/\Step μ hS H bK/\hS l=some L/\pE hS eY (mark++ds)/\bK.bp<=l:=by
  intro eE bh mark gw aa s1 au er fK;have iP:=aa.rj ⟨bh.heap.size,0,0⟩
  obtain⟨cE,eW,aA⟩:=aa.made (o:=.loop {state:=.ready,pending:=none,fn:=fr.fn,tmps:=tmps,params:=params,assign:=assign,body:=body,defers:=gw.r}) (L:=⟨bh.heap.size,0,0⟩) aw rfl rfl
   ⟨rfl,rfl,rfl,rfl,rfl,(az.t.mono s1.ext).mono iP,gw,iP _ _ au,rfl⟩
  subst aA;refine⟨_,_,mark,⟨bh.heap.size,0,0⟩,fK,cE,s1.trans eW,bz.iw _ _ _,er.mono iP,?_⟩;rw[eW.bp];exact aa.iN
 unfold BI at he;cases uc:S.b8 with
 |some l0=>
  rw[uc] at he;simp only at he;cases hm:H.mem.get l0 with
  |none=>rw[hm] at he;cases he
  |some b=>
   rw[hm] at he;cases b with
   |loop px=>
    simp only[b9,c'] at he;obtain⟨rfl,rfl,rfl⟩:=he;obtain⟨afA,G9,YG⟩:=az.wD l0 uc;obtain⟨ahV,gK,gT⟩:=A' h G9 hm;obtain⟨br,bN,cW,dj,eU,eP,bC,jM,j5⟩:=gT;refine fin μ w [] bC h (Step.refl _ _) jM az.d ?_;rw[YG];simp[Instr.enterLoop,Instr.getLoop,getObj,newObj,Sem.run,gK,j5]
   |_=>cases he
 |none=>
  rw[uc] at he;simp only at he;cases lj:H.new (.ft (some [])) with
  |none=>rw[lj] at he;cases he
  |some p=>
   obtain⟨r,nf⟩:=p;rw[lj] at he;simp only[b9,c'] at he;obtain⟨rfl,rfl,rfl⟩:=he;obtain⟨cE,eW,aA⟩:=h.made (o:=.deferred (some [])) (L:=⟨w.heap.size,0,0⟩) lj rfl rfl ⟨rfl,.inl rfl⟩;subst aA;refine fin _ _ [{target:=.collected w.heap.size,args:=#[]}] ⟨w.heap.size,0,0⟩ cE eW (bz.iw _ _ _) (.cons _ _ _ _ (.inr ⟨H.ax,⟨w.heap.size,0,0⟩,rfl,bz.iw _ _ _,rfl⟩) (az.d.mono eW.ext)) ?_;rw[az.rY uc];simp[Instr.enterLoop,newObj,Sem.run]
theorem Qu{E:eT}(hf:nc P B w0 E.call):Lx P B w0 E:=by
 intro f params assign body S H e aB H' he μ w fr tmps ds cs k h az;unfold xp at he;cases dM:BI S H with
 |none=>rw[dM] at he;cases he
 |some p=>
  obtain⟨d,eY,H1⟩:=p;rw[dM] at he;simp only at he;cases aw:H1.new (.loop {state:=.ready,pending:=none,T:=S.T,n:=S.n,params:=params.toList,assign:=assign,body:=body,ft:=d}) with
  |none=>rw[aw] at he;cases he
  |some p=>
   obtain⟨l,bK⟩:=p;rw[aw] at he;simp only at he;obtain⟨hS,cb,mark,L,aR,aN,bG,dd,fm,ho⟩:=acu h az dM aw;have lC:gO hS {S with ds:=eY} fr tmps (mark++ds) cs:=by
    have:=az.mono bG.ext;exact⟨this.t,fm,this.kind,this.rY,this.wD,this.bf⟩
   have afB:Reached P B w0 μ H S fr cs {S with ds:=eY} bK hS cb tmps (mark++ds) cs:=⟨aN,bG,lC,iA.refl _ _ az.ry,rfl,rfl⟩;cases dC:aW S.T bK f with
   |none=>rw[dC] at he;cases he
   |some jd=>
    rw[dC] at he;have iQ:=qu aN lC.t (T:=S.T) dC;cases jd with
    |func fn first captured=>
     have he:(match j9 P bK fn (first.toList++[.func (.yield l) #[] #[]]) captured.toList with|none=>none|some (g,cl)=>JB {S with ds:=eY} l (E.body g cl false .run bK))=some (e,aB,H'):=he
     cases gd:j9 P bK fn (first.toList++[.func (.yield l) #[] #[]]) captured.toList with
     |none=>rw[gd] at he;cases he
     |some p=>
      obtain⟨g,cl⟩:=p;rw[gd] at he;simp only at he;rcases iQ.xA with⟨bE,b',ay,rF,aa,ab⟩|⟨l',bC,rfl,_,rfl,rfl,ay⟩
      ·have aF:bF hS [Value.func (.yield l) #[] #[]] [Value.func (.yield L.r) #[] #[]]:=bF.cons (.yield l L dd) (bF.nil _);obtain⟨ie,bx,bX⟩:=Gy (w:=cb) (aa.append aF) ab gd;have LC:(invoke (.fn fn b') (bE.push (.func (.yield L.r) #[] #[]))).run P cb=(callFunc g ie.toArray).run P cb:=by
        rw[<-bx];have aC:(bE.toList++[Value.func (.yield L.r) #[] #[]]).toArray=bE.push (.func (.yield L.r) #[] #[]):=by apply oG;simp
        have aZ:b'.toList.toArray=b':=by simp
        rw[aC,aZ]
       cases ah:E.body g cl false .run bK with
       |none=>rw[ah] at he;cases he
       |some p=>
        obtain⟨x,bf,fi⟩:=p;rw[ah] at he;have aL:E.call g cl bK=some (x,fi):=by unfold eT.call;rw[ah]
        --tj ahF end
        have fin:∀(ml:bz) (dD:World) (v:Value),x=.returned v->bL P B w0 ml fi dD->Step hS ml bK fi->Steps P (lone (bt fr tmps ds (.code (.rangeFunc f params assign body)::k)) cs w) (lone (bt fr tmps (mark++ds) (.endRangeFunc L.r::k)) cs dD)->
         jZ P B w0 μ H S fr cs (lone (bt fr tmps ds (.code (.rangeFunc f params assign body)::k)) cs w) k aB H' e:=by
         intro ml dD v U aY h' af;subst U;have he:BH {S with ds:=eY} l fi=some (e,aB,H'):=he;unfold BH at he;cases sO:fi.mem.get l with
         |none=>rw[sO] at he;cases he
         |some b=>
          rw[sO] at he;cases b with
          |loop fo=>
           have z':ml l=some L:=h'.ext _ _ dd;obtain⟨yI,H6,H7⟩:=A' aY z' sO;obtain⟨dE,ej,y3,y4,E3,B2,B3⟩:=H7;have HA:fi.bp<=l:=by rw[h'.bp];exact ho
           have ub:fo.state≠.busy/\∃iB,fi.upd l (.loop {fo with state:=.exhausted})=some iB/\JC {S with ds:=eY} fo.pending iB=some (e,aB,H'):=by
            simp only at he;cases af:fo.state with
            |busy=>simp only[af] at he;cases he
            |_=>
             simp only[af] at he;cases hu:fi.upd l (.loop {fo with state:=.exhausted}) with
             |none=>rw[hu] at he;cases he
             |some iB=>rw[hu] at he;exact⟨(fun q=>by cases q),iB,rfl,he⟩
           obtain⟨ub,iB,hu,he⟩:=ub;obtain⟨FD,FE⟩:=Kq (rX:={yI with state:=.exhausted}) aY z' HA sO hu ⟨rfl,ej,y3,y4,E3,B2,B3⟩;have o4:(Instr.endLoop L.r).run P dD=.ok fo.pending {dD with heap:=dD.heap.setIfInBounds L.r (.loop {yI with state:=.exhausted})}:=by
            have kw:¬yI.state=.busy:=by rw[dE];exact ub
            simp[Instr.endLoop,Instr.getLoop,getObj,setObj,Sem.run,H6,kw,ej]
           have sU:=af.trans (.one (adx o4))
           have Fy:Reached P B w0 μ H S fr cs {S with ds:=eY} iB ml {dD with heap:=dD.heap.setIfInBounds L.r (.loop {yI with state:=.exhausted})} tmps (mark++ds) cs:=
            ⟨FD,(bG.trans h').trans FE,lC.mono h'.ext,iA.refl _ _ az.ry,rfl,rfl⟩
           cases Oj:fo.pending with
           |none=>
            rw[Oj] at he sU;have he:some (Exit.normal,{S with ds:=eY},iB)=some (e,aB,H'):=he;simp only[b9,c'] at he;obtain⟨rfl,rfl,rfl⟩:=he;exact⟨_,_,_,_,_,Fy,sU⟩
           |some c=>
            rw[Oj] at he sU;cases c with
            |ret=>
             have he:some (Exit.ret,{S with ds:=eY},iB)=some (e,aB,H'):=he;simp only[b9,c'] at he;obtain⟨rfl,rfl,rfl⟩:=he;exact⟨_,_,_,_,_,k,Fy,sU⟩
            |exit id=>
             have he:some (Exit.exit id,{S with ds:=eY},iB)=some (e,aB,H'):=he;simp only[b9,c'] at he;obtain⟨rfl,rfl,rfl⟩:=he;exact⟨_,_,_,_,_,k,Fy,rfl,sU⟩
            |_=>cases he
          |_=>cases he
        rcases hf g cl bK x fi aL hS cb ie aN bX with⟨jm,v',a7,bd,aC,aZ,cJ,eo,cp⟩|⟨aC,aZ⟩
        ·exact fin bd a7 jm aC cJ eo (.one (adz aR ay (LC.trans aZ)))
        ·obtain⟨bk,a7,M1,⟨bd,cm,cn,cR⟩,xO,_,x0⟩:=aZ (bt fr tmps (mark++ds) (.inRangeFunc L.r::k)::cs);have NS:=ady (cs:=cs) (k:=k) (ds:=ds) aR ay (LC.trans aC);cases bk with
         |returned v'=>
          cases x with
          |returned v=>
           refine fin bd a7 v rfl cm cn ?_;have:=step_leave_returned (cs:=cs) (c:=bt fr tmps (mark++ds) (.inRangeFunc L.r::k)) x0;exact .head NS (Steps.trans xO (.one this))
          |panicked c=>exact cR.elim
          |outgrown=>exact cR.elim
         |panicked bw=>
          cases x with
          |returned v=>exact cR.elim
          |outgrown=>exact cR.elim
          |panicked c=>
           have he:some (Exit.panic c,{S with ds:=eY},fi)=some (e,aB,H'):=he;simp only[b9,c'] at he;obtain⟨rfl,rfl,rfl⟩:=he;have YC:=step_leave_panicked (cs:=cs) (c:=bt fr tmps (mark++ds) (.inRangeFunc L.r::k)) x0;refine⟨bd,a7,tmps,mark++ds,cs,bw,.inRangeFunc L.r::k,⟨cm,bG.trans cn,lC.mono cn.ext,iA.refl _ _ az.ry,rfl,rfl⟩,cR,?_⟩;exact .head NS (Steps.trans xO (.one YC))
         |outgrown=>cases x<;>exact cR.elim
      ·cases gd
    |_=>cases he
theorem VS{eK:aQ Func}(eB:pK P eK):∀n,∀(B:Nat->Prop) (w0:World),oH P B w0 (ri P eK n).code/\qN P B w0 (ri P eK n).body/\nc P B w0 (ri P eK n).call:=by
 intro n;induction n with
 |zero=>
  intro B w0;exact⟨(fun c S H e aB H' he=>by cases he),(fun f args bf H e fx H' he=>by cases he),(fun f args H e H' he=>by cases he)⟩
 |succ n aP=>
  intro B w0;obtain⟨aa,ab,aY⟩:=aP B w0;exact⟨MQ eB.ov aa (fun gW g6 _ _=>(aP gW g6).2.2) (fun gW g6 _ _=>E0 (aP gW g6).1) (Qu aY),MN eB aa ab,Gu eB aa ab⟩
theorem VR{eK:aQ Func}(eB:pK P eK)(n:Nat):oH P B w0 (ri P eK n).code/\qN P B w0 (ri P eK n).body/\nc P B w0 (ri P eK n).call:=VS eB n B w0
end
end
end Go.Cre
namespace Go.Cre
noncomputable section
open Go.RowKit
section
variable {P:Program}{w:World}{H:ai}
structure Laid (P:Program) (w:World) (H:ai):Prop where
 bl:H.bl=.leaf
 ax:H.ax=H.bp
 rows:∀g b,H.mem.get g=some b->b=.dead\/∃cells e f,b=.row cells e false 0 pR true/\g<H.bp/\w.heap[g]?=some (.cells cells.toArray e f)/\cells.all plain=true/\cells.length<=pR
def z0 (P:Program)(H:ai):bz:=fun g=>match H.mem.get g with
 |some (.row cells e _ _ _ _)=>some ⟨g,cells.length,P.cellsOf e⟩
 |_=>none
theorem VX(h:Laid P w H):bL P (fun k=>k<w.heap.size) w (z0 P H) H w:=by
 have inv:∀g L,z0 P H g=some L->∃cells e f,H.mem.get g=some (.row cells e false 0 pR true)/\L=⟨g,cells.length,P.cellsOf e⟩/\g<H.bp/\w.heap[g]?=some (.cells cells.toArray e f)/\cells.all plain=true/\cells.length<=pR:=by
  intro g L q;unfold z0 at q;cases hm:H.mem.get g with
  |none=>rw[hm] at q;cases q
  |some b=>
   rw[hm] at q;rcases h.rows g b hm with rfl|⟨cells,e,f,rfl,bx,bX,cy,c0⟩
   ·cases q
   ·injection q with q;subst q
    exact⟨cells,e,f,rfl,rfl,bx,bX,cy,c0⟩
 refine⟨Kept.refl _ _,fun _ hk=>hk,?_,?_,?_,?_,?_,?_,by rw[h.ax];exact c5 _,?_,?_,?_⟩
 ·intro g L q;obtain⟨cells,e,f,bx,rfl,cy,c0,cr,dY⟩:=inv g L q;refine⟨_,_,bx,c0,rfl,by simp,rfl,c5 _,fun _=>rfl,fun i v v' x y=>?_,⟨fun off ag _ _=>jL ag dY,fun q=>by cases q⟩⟩;have:v=v':=by
   rw[Sy] at y;rw[x] at y;injection y
  subst this;exact mZ (qS.1 cr v (k8 x))
 ·intro x y gw gG dT U aF al;obtain⟨_,_,_,_,rfl,_⟩:=inv x gw U;obtain⟨_,_,_,_,rfl,_⟩:=inv y gG aF;exact absurd al dT
 ·intro x L U;obtain⟨_,_,_,_,_,a,_⟩:=inv x L U;rw[h.ax];exact a
 ·intro x L U _;obtain⟨_,_,_,_,rfl,_⟩:=inv x L U;rfl
 ·intro x L U aq _;obtain⟨_,_,_,_,_,a,_⟩:=inv x L U;omega
 ·intro g c e o f z s _ hm;exact⟨⟨g,c.length,P.cellsOf e⟩,by unfold z0;rw[hm]⟩
 ·intro x c e f z s hm;rcases h.rows x _ hm with q|⟨_,_,_,q,_⟩<;>cases q
 ·intro f l x aA;rw[h.bl] at aA;cases aA
 ·intro f l aA;rw[h.bl] at aA;cases aA
def isTrue (x:Option (Ending×FrameMode×ai)):Bool:=match x with|some (.returned (.bool b),_,_)=>b|_=>false
theorem Ul{eK:aQ Func}(eB:pK P eK){n:Nat}{f:FuncId}{fn:Func}{c:Code}(az:P.funcs[f]?=some fn)(ah:fn.body=some c)(h:Laid P w H)(he:isTrue ((ri P eK n).body f [] false .run H)=true):
 Calls P f #[] w fun e a7=>e=.returned (.bool true)/\Below w.heap.size w a7:=by
 cases al:(ri P eK n).body f [] false .run H with
 |none=>rw[al] at he;cases he
 |some p=>
  obtain⟨e,bf,H'⟩:=p;rw[al] at he;have aL:(ri P eK n).call f [] H=some (e,H'):=by unfold eT.call;rw[al]
  have af:=(VR (B:=fun k=>k<w.heap.size) (w0:=w) eB n).2.2 f [] H e H' aL (z0 P H) w [] (VX h) (bF.nil _);rcases af with⟨v,v',a7,bd,_,q,_⟩|⟨_,q⟩
  ·rw[zR az ah (eB.num f fn az (by rw[ah];rfl))] at q;cases q
  ·refine Calls.mono q fun bk a7 ⟨bd,cm,cn,cR⟩=>?_;cases e with
   |returned v=>
    cases v with
    |bool b=>
     have he:b=true:=he;subst he;cases bk with
     |returned v'=>
      have ay:bc bd (.bool true) v':=cR;rw[ay.zw];exact⟨rfl,cm.below.below⟩
     |panicked c=>exact cR.elim
     |outgrown=>exact cR.elim
    |_=>cases he
   |panicked c=>cases he
   |outgrown=>cases he
theorem J5{α:Type}:∀{l:List α} {i:Nat} {T di:aQ α},tl l i T=some di->∀t,di.get t=if i<=t/\t<i+l.length then l[t -i]? else T.get t:=by
 intro l;induction l with
 |nil=>intro i T di h t;simp[tl] at h;subst h;rw[a3 (by rw[zf];omega)]
 |cons v l aP=>
  intro i T di h t;simp only[tl] at h;cases af:aQ.set yQ T i v with
  |none=>rw[af] at h;cases h
  |some nj=>
   rw[af] at h;rw[aP h t,aQ.GQ af];by_cases aa:i+1<=t/\t<i+1+l.length
   ·rw[bg aa,bg (by rw[lx];omega)];have:t -i=(t -(i+1))+1:=by omega
    rw[this];rfl
   ·rw[a3 aa];by_cases ab:t=i
    ·subst ab;rw[bg rfl,bg (by simp)];simp
    ·rw[a3 ab,a3 (by rw[lx];omega)]
def xx (P:Program):aQ Func:=match tl P.funcs.toList 0 .leaf with|some t=>t|none=>.leaf
def Ja (P:Program):Bool:=P.funcs.toList.all fun fn=>fn.body.isNone||!(fn.name== "runtime.NumGoroutine")
theorem Qe(hm:P.follows .mixedOrders=true)(aw:Ja P=true):pK P (xx P):=by
 refine⟨hm,fun f fn h=>?_,fun f fn az ah=>?_⟩
 ·unfold xx at h;cases aM:tl P.funcs.toList 0 .leaf with
  |none=>rw[aM] at h;cases h
  |some t=>
   rw[aM] at h;rw[J5 aM] at h;split at h
   ·simpa using h
   ·cases h
 ·unfold Ja at aw;rw[qS] at aw;have:=aw fn (by simpa using B7 az);cases kx:fn.body with
  |none=>rw[kx] at ah;cases ah
  |some c=>simpa[kx] using this
def lay (T:aQ eF):List (Nat×TypeId×List Value)->aQ eF
 |[]=>T
 |(g,e,cells)::l=>match aQ.put (.row cells e false 0 pR true) (lay T l) g with
  |some di=>di
  |none=>lay T l
theorem Z0{T:aQ eF}:∀{l:List (Nat×TypeId×List Value)} {g:Nat} {b:eF},(lay T l).get g=some b->T.get g=some b\/∃e cells,(g,e,cells)∈l/\b=.row cells e false 0 pR true:=by
 intro l;induction l with
 |nil=>intro g b h;exact .inl h
 |cons x l aP=>
  intro g b h;obtain⟨M3,e,cells⟩:=x;simp only[lay] at h;cases ao:aQ.put (eF.row cells e false 0 pR true) (lay T l) M3 with
  |none=>
   rw[ao] at h;rcases aP h with q|⟨bk,bw,aR,aN⟩
   ·exact .inl q
   ·exact .inr ⟨bk,bw,by simp[aR],aN⟩
  |some di=>
   rw[ao] at h;simp only at h;rw[aQ.get_put ao] at h;by_cases aq:g=M3
   ·subst aq;rw[bg rfl] at h;injection h with h
    exact .inr ⟨e,cells,by simp,h.symm⟩
   ·rw[a3 aq] at h;rcases aP h with q|⟨bk,bw,aR,aN⟩
    ·exact .inl q
    ·exact .inr ⟨bk,bw,by simp[aR],aN⟩
def MY (n d:Nat)(l:List (Nat×TypeId×List Value)):ai:=⟨lay (aQ.full .dead d) l,n,.leaf,0,n⟩
theorem ZW{n d:Nat}{l:List (Nat×TypeId×List Value)}(h:∀g e cells,(g,e,cells)∈l->g<n/\(∃f,w.heap[g]?=some (.cells cells.toArray e f))/\cells.all plain=true/\cells.length<=pR):Laid P w (MY n d l):=by
 refine⟨rfl,rfl,fun g b ah=>?_⟩;rcases Z0 ah with q|⟨e,cells,aR,aN⟩
 ·rcases aQ.M8 eF.dead d g with r|r
  ·rw[r] at q;cases q
  ·rw[r] at q;injection q with q;exact .inl q.symm
 ·obtain⟨bx,⟨f,bX⟩,cy,c0⟩:=h g e cells aR;exact .inr ⟨cells,e,f,aN,bx,bX,cy,c0⟩
end
end
end Go.Cre
namespace Go.Cre
noncomputable section
open Go.ChangeShapes
theorem O'{P:Program}{W:World}{name:String}{k:IntKind}{fz:List Int}{g:Nat}{t:TypeId}(aq:P.globalNamed name=some g)(cD:g<P.globals.size)
 (al:(((begin P (fun _ _=>0) default).world.heap[g]?).bind Obj.row?).map (·.2)=some t)(af:W.ShapedOpen P)(aM:Lib.TabIs P W name k fz):∃f,W.heap[g]?=some (.cells (fz.map fun z=>Value.int k z).toArray t f):=by
 obtain⟨⟨zero,jG⟩,aa,ab⟩:=sg.1 al;simp only at ab;subst ab;obtain⟨cs,a,_⟩:=af.1 g zero jG cD aa;unfold Lib.TabIs World.var? at aM;rw[aq] at aM;simp only[Ls,a,b9] at aM;subst aM;exact⟨_,a⟩
end
end Go.Cre
namespace Go.Cre
noncomputable section
open Go.RowKit
section
variable {P:Program}{B:Nat->Prop}{w0 w:World}{μ:bz}{H:ai}{S:aT}{fr:Frame}{tmps:Array Value}{ds:List Deferred}{cs:List Frame}
end
end
end Go.Cre
namespace Go.Cre
noncomputable section
open Go.RowKit
section
variable {P:Program}{B:Nat->Prop}{w0 w a7:World}{μ:bz}{H H0:ai}
theorem bL.grow(h:bL P B w0 μ H w)(ah:Below w.heap.size w a7):bL P B w0 μ H a7:=by
 have cD:∀x bC,μ x=some bC->bC.r<w.heap.size:=fun x bC U=>by
  obtain⟨b',o',_,ag,_⟩:=h.e6 x bC U;rcases hr bC.r w.heap.size with cS|cS
  ·exact cS
  ·rw[pC cS] at ag;cases ag
 refine⟨h.below.trans (.aa1 ah h.lB),fun k hk=>jL (h.lB k hk) ah.size,fun x L U=>?_,h.sep,h.lt,h.own,h.new,h.pT,h.iN,h.n4,h.jC,h.rk⟩;obtain⟨b,o,aa,ab,aY⟩:=h.e6 x L U;exact⟨b,o,aa,by rw[ah.block _ (cD x L U)];exact ab,aY⟩
def Cj(H0:ai)(B:Nat->Prop):Prop:=∀g b,H0.mem.get g=some b->b≠.dead->B g
theorem Laid.ff{B:Nat->Prop}(h:Laid P w0 H0)(ep:Cj H0 B)(hk:Kept B w0 w):Laid P w H0:=by
 refine⟨h.bl,h.ax,fun g b aq=>?_⟩;rcases h.rows g b aq with q|⟨cells,e,f,aR,aN,bG,dd,fm⟩
 ·exact .inl q
 ·exact .inr ⟨cells,e,f,aR,aN,by rw[hk.block g (ep g b aq (by rw[aR];intro q;cases q))];exact bG,dd,fm⟩
theorem Laid.Zq(h:Laid P w0 H0):Cj H0 (fun k=>k<w0.heap.size):=fun g b aq ah=>by
 rcases h.rows g b aq with q|⟨cells,e,f,aR,aN,bG,dd,fm⟩
 ·exact absurd q ah
 ·exact(E8.1 bG).1
def au:Code->Code
 |.seq a _=>a
 |c=>c
end
end
end Go.Cre
namespace Go.Cre
noncomputable section
end
end Go.Cre

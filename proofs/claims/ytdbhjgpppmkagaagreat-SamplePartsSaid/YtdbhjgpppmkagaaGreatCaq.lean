/- A part of the proof of SampleParts. -/
import Derived.Test.YtdbhjgpppmkagaaGreatCap
import Derived.ChangeSame
import Derived.Lib.LaidTab
set_option linter.unusedVariables false
set_option linter.unusedSimpArgs false
namespace Go.Cre
noncomputable section
open Go.RowKit
section
variable {P:Program}{B:Nat->Prop}{w0 w bb:World}{μ e' bk:bH}{H H1 H':ao}{S ba aO:aQ}{fr:Frame}{tmps:Array Value}{ds:List Deferred}{cs gv:List Frame}{k:List Item}
theorem ah3{n:Nat}:∀{dx:List Tmp} {args cD:List Value} {T dP:aX Value} {tmps:Array Value},sS T dx args=some dP->bN μ args cD->jK μ T n tmps->tk n dx=true->
 dx.length=cD.length/\jK μ dP n ((dx.zip cD).foldl (fun tmps (x:Tmp×Value)=>tmps.setIfInBounds x.1 x.2) tmps):=by
 intro dx;induction dx with
 |nil=>
  intro args cD T dP tmps he ay aN _;cases args with
  |nil=>
   obtain rfl:=ay.kA;simp[sS] at he;subst he;exact⟨rfl,aN⟩
  |cons=>simp[sS] at he
 |cons t dx aG=>
  intro args cD T dP tmps he ay aN ai;cases args with
  |nil=>simp[sS] at he
  |cons v args=>
   obtain⟨v',l',rfl,aa,ab⟩:=ay.iN;simp only[sS] at he;simp only[tk,fR] at ai;have cP:t<n:=hC ai.1;cases al:aX.set Cu T t v with
   |none=>rw[al] at he;cases he
   |some o3=>
    rw[al] at he;have aet:jK μ o3 n (tmps.setIfInBounds t v'):=by
     refine⟨by simpa using aN.1,fun x u q=>?_⟩;rw[aX.Lt al] at q;by_cases I:x=t
     ·subst I;rw[aF rfl] at q;injection q with q;subst q
      have:(tmps.setIfInBounds x v').getD x undef=v':=by
       have:x<tmps.size:=uO cP aN.1;simp[this]
      rw[this];exact aa
     ·rw[aq I] at q;have:(tmps.setIfInBounds t v').getD x undef=tmps.getD x undef:=by
       simp[Pq (Ne.symm I)]
      rw[this];exact aN.2 x u q
    obtain⟨a,b⟩:=aG he ab aet ai.2;exact⟨by simp[a],b⟩
theorem ajt{l:Nat}{v:Value}{c:Frame}(ax:fr.roundOf=some l)(aH:fr.kind=.normal)(gK:(Instr.endRound l none).run P w=.ok v bb):
 step P (lone (bG fr tmps ds []) (c::cs) w)=.next (lone (c.finish v) cs bb):=step_lone_go (by simp[stepG,stepG.exec,bG,ax,gK,doReturn,aH])
theorem ajv{l:Nat}{v:Value}{c:Frame}(ax:fr.roundOf=some l)(aH:fr.kind=.normal)(gK:(Instr.endRound l (some .ret)).run P w=.ok v bb):
 step P (lone (bG fr tmps ds (.code .ret::k)) (c::cs) w)=.next (lone (c.finish v) cs bb):=step_lone_go (by simp[stepG,stepG.exec,bG,ax,gK,doReturn,aH])
theorem aju{l id:Nat}{v:Value}{c:Frame}(ax:fr.roundOf=some l)(aH:fr.kind=.normal)(he:exitTo id k=none)(gK:(Instr.endRound l (some (.exit id))).run P w=.ok v bb):
 step P (lone (bG fr tmps ds (.code (.exit id)::k)) (c::cs) w)=.next (lone (c.finish v) cs bb):=step_lone_go (by simp[stepG,stepG.exec,bG,ax,he,gK,doReturn,aH])
theorem ajk{l:Nat}(ax:fr.roundOf=some l)(gK:(Instr.beginRound l).run P w=.ok () bb):
 step P (lone (bG fr tmps ds (.beginRound::k)) cs w)=.next (lone (bG fr tmps ds k) cs bb):=step_lone_go (by simp[stepG,stepG.exec,stepG.apply,bG,ax,gK,Frame.finish])
theorem Fj(h:bR P B w0 μ H w){l:Nat}{L:Loc}{r:pI}(bB:μ l=some L)(hm:H.mem.get l=some (.loop r)):
 ∃b7,w.heap[L.r]?=some (.loop b7)/\jm P μ L (.loop r) (.loop b7):=by
 obtain⟨b,o,aZ,aR,bY⟩:=h.fS l L bB;rw[hm] at aZ;injection aZ with aZ;subst aZ
 cases o with
 |loop b7=>exact⟨b7,aR,bY⟩
 |_=>exact bY.elim
theorem O7(h:bR P B w0 μ H w){l:Nat}{L:Loc}{r cO:pI}{ur:Loop}(bB:μ l=some L)(ar:H.bq<=l)(hm:H.mem.get l=some (.loop r))(hu:H.upd l (.loop cO)=some H')(ai:jm P μ L (.loop cO) (.loop ur)):
 bR P B w0 μ H' {w with heap:=w.heap.setIfInBounds L.r (.loop ur)}/\Step μ μ H H':=
 h.Xb bB ar hm (fun _ _ _ _ _ _ q=>by cases q) (fun q=>by cases q) hu (fun _ _ _ _ _ _ q=>by cases q) ai
theorem JL{E:fY}(xe:qJ P B w0 E.code):wE P B w0 E.aL:=by
 intro l args H e H' he μ w L cD h bB ay;unfold fY.aL at he;cases hm:H.mem.get l with
 |none=>rw[hm] at he;cases he
 |some b=>
  rw[hm] at he;cases b with
  |loop r=>
   simp only at he;cases av:(Nat.ble H.bq l&&tk r.n r.params) with
   |false=>rw[av] at he;cases he
   |true=>
    rw[av,cc] at he;simp only[fR] at av;have ar:=hC av.1;obtain⟨b7,sC,xq⟩:=Fj h bB hm;obtain⟨bE,bS,cJ,gy,nD,r5,bw,Dc,Dd⟩:=xq;cases au:sS r.T r.params args with
    |none=>rw[au] at he;cases he
    |some T=>
     rw[au] at he;have he:Pb E l r.body (E.code r.assign ⟨T,r.n,[],false,.run,some l⟩ H)=some (e,H'):=he;obtain⟨hlen,dK⟩:=ah3 au ay r5 av.2;cases aW:E.code r.assign ⟨T,r.n,[],false,.run,some l⟩ H with
     |none=>rw[aW] at he;cases he
     |some p=>
      obtain⟨h4,ba,H1⟩:=p;rw[aW] at he;cases h4 with
      |normal=>
       have he:Ge E l r.body ba H1=some (e,H'):=he;unfold Ge at he;cases xm:H1.mem.get l with
       |none=>rw[xm] at he;cases he
       |some b=>
        rw[xm] at he;cases b with
        |loop cO=>
         simp only at he;cases c0:cO.state with
         |ready=>
          simp only[c0] at he;cases hu:H1.upd l (.loop {cO with state:=.busy}) with
          |none=>rw[hu] at he;cases he
          |some bZ=>
           rw[hu] at he;have he:Pc l (E.code r.body ba bZ)=some (e,H'):=he;cases ai:E.code r.body ba bZ with
           |none=>rw[ai] at he;cases he
           |some p=>
            obtain⟨hd,GC,gf⟩:=p;rw[ai] at he;have he:(match BR hd with|some j=>Ah gf l j|none=>none)=some (e,H'):=he
            cases aU:BR hd with
            |none=>rw[aU] at he;cases he
            |some j=>
             rw[aU] at he;have he:Ah gf l j=some (e,H'):=he;unfold Ah at he;cases vA:gf.mem.get l with
             |none=>rw[vA] at he;cases he
             |some b=>
              rw[vA] at he;cases b with
              |loop fK=>
               simp only at he;cases E0:gf.upd l (.loop {fK with state:=if j.isNone then .ready else .done,pending:=j}) with
               |none=>rw[E0] at he;cases he
               |some jI=>
                rw[E0] at he;have he:some (Ending.returned (.bool j.isNone),jI)=some (e,H'):=he;simp only[b6,da] at he;obtain⟨rfl,rfl⟩:=he
                let oU:Array Value:=(b7.params.zip cD.toArray).foldl (fun tmps (x:Tmp×Value)=>tmps.setIfInBounds x.1 x.2) b7.tmps
                have aew:jK μ T r.n oU:=by
                 have aD:oU=(r.params.zip cD).foldl (fun tmps (x:Tmp×Value)=>tmps.setIfInBounds x.1 x.2) b7.tmps:=by
                  show(b7.params.zip cD.toArray).foldl _ _=_;rw[<-Array.foldl_toList,Array.toList_zip,cJ]
                 rw[aD];exact dK
                refine⟨_,b7.fn,oU,b7.assign,b7.body,rfl,?_,?_⟩
                ·have eI:cD.toArray.size=b7.params.size:=by
                  have:b7.params.size=b7.params.toList.length:=by simp
                  rw[this,cJ];simpa using hlen.symm
                 have Ij:cD.length=b7.params.size:=by simpa using eI
                 simp[Instr.yield,Instr.getLoop,getObj,Sem.run,sC,Ij,oU]
                ·intro caller cs
                 let kv:Frame:=Frame.round L.r b7.fn oU b7.assign b7.body .normal
                 have ke:kv=bG kv oU [] [.code b7.assign,.beginRound,.code b7.body]:=rfl
                 have fz:hM μ ⟨T,r.n,[],false,.run,some l⟩ kv oU [] (caller::cs):=
                  ⟨aew,.nil,rfl,(fun q=>by cases q),(fun l' q=>by injection q with q;subst q;exact⟨L,bB,rfl⟩),(fun q=>by cases q)⟩
                 have bx:=xe r.assign _ H .normal ba H1 aW μ w kv oU [] (caller::cs) [.beginRound,.code b7.body] (.code r.assign) h fz (.inl rfl);rw[<-gy,<-ke] at bx;obtain⟨e',d',t1,d1,gv,lP,s1⟩:=bx;have ac2:gv=caller::cs:=lP.c;subst ac2;have sn:e' l=some L:=lP.ei.ext _ _ bB;obtain⟨ur,ad2,ad3⟩:=Fj lP.h sn xm;obtain⟨oa,pH,Gd,ali,alj,alk,alm⟩:=ad3;have xi:H1.bq<=l:=by rw[lP.ei.bq];exact ar
                 obtain⟨X0,P9⟩:=O7 (ur:={ur with state:=.busy}) lP.h sn xi xm hu ⟨rfl,pH,Gd,ali,alj,alk,alm⟩;have s2:step P (lone (bG kv t1 d1 [.beginRound,.code b7.body]) (caller::cs) d')=.next (lone (bG kv t1 d1 [.code b7.body]) (caller::cs) {d' with heap:=d'.heap.setIfInBounds L.r (.loop {ur with state:=.busy})}):=by
                  refine ajk rfl ?_;have:ur.state=.ready:=oa.trans c0;simp[Instr.beginRound,Instr.getLoop,getObj,setObj,Sem.run,ad2,this]
                 have dA:=xe r.body ba bZ hd GC gf ai e' _ kv t1 d1 (caller::cs) [] (.code r.body) X0 lP.f (.inl rfl);rw[<-nD] at dA;have HF:ba.b0=false:=lP.b0
                 --sZ round ends
                 have fin:∀(ob:bH) (ia:World) (t3:Array Value) (d3:List Deferred) (tu:List Frame) (todo:List Item),Reached P B w0 e' bZ ba kv (caller::cs) GC gf ob ia t3 d3 tu->
                  (∀v rQ,(Instr.endRound L.r j).run P ia=.ok v rQ->step P (lone (bG kv t3 d3 todo) (caller::cs) ia)=.next (lone (caller.finish v) cs rQ))->
                  Steps P (lone (bG kv t1 d1 [.code b7.body]) (caller::cs) {d' with heap:=d'.heap.setIfInBounds L.r (.loop {ur with state:=.busy})}) (lone (bG kv t3 d3 todo) tu ia)->
                  ∃v' bb bk,bR P B w0 bk jI bb/\Step μ bk H jI/\bj bk (.bool j.isNone) v'/\Steps P (lone kv (caller::cs) w) (lone (caller.finish v') cs bb):=by
                  intro ob ia t3 d3 tu todo qM cp h2;have ac3:tu=caller::cs:=by have:=qM.c;rw[HF] at this;exact this
                  subst ac3;have y':ob l=some L:=qM.ei.ext _ _ sn;obtain⟨Cj,MW,MX⟩:=Fj qM.h y' vA;obtain⟨kG,nx,qG,oY,rR,s6,uD⟩:=MX;have Bf:gf.bq<=l:=by rw[qM.ei.bq,P9.bq];exact xi
                  obtain⟨k5,hY⟩:=O7 (ur:={Cj with state:=if j.isNone then .ready else .done,pending:=j}) qM.h y' Bf vA E0 ⟨rfl,rfl,qG,oY,rR,s6,uD⟩;refine⟨.bool j.isNone,_,ob,k5,((lP.ei.trans P9).trans qM.ei).trans hY,.atom _ rfl,?_⟩;refine(s1.trans (.head s2 h2)).trans (.one (cp _ _ ?_));simp[Instr.endRound,Instr.getLoop,getObj,setObj,Sem.run,MW]
                 cases hd with
                 |normal=>
                  injection aU with aU;subst aU
                  obtain⟨ob,ia,t3,d3,tu,qM,h2⟩:=dA;exact fin ob ia t3 d3 tu [] qM (fun v rQ q=>ajt rfl rfl q) h2
                 |ret=>
                  injection aU with aU;subst aU
                  obtain⟨ob,ia,t3,d3,tu,bz,qM,h2⟩:=dA;exact fin ob ia t3 d3 tu _ qM (fun v rQ q=>ajv rfl rfl q) h2
                 |exit id=>
                  injection aU with aU;subst aU
                  obtain⟨ob,ia,t3,d3,tu,bz,qM,ex,h2⟩:=dA;exact fin ob ia t3 d3 tu _ qM (fun v rQ q=>aju rfl rfl (ex.trans rfl) q) h2
                 |goto l=>cases aU
                 |panic c=>cases aU
                 |outgrown=>cases aU
              |_=>cases he
         |done=>simp only[c0] at he;cases he
         |busy=>simp only[c0] at he;cases he
         |exhausted=>simp only[c0] at he;cases he
        |_=>cases he
      |_=>cases he
  |_=>cases he
end
end
end Go.Cre
namespace Go.Cre
noncomputable section
open Go.RowKit
section
variable {P:Program}{B:Nat->Prop}{w0 w bb:World}{μ e' bk:bH}{H H1 H':ao}{S ba aO:aQ}{fr:Frame}{tmps:Array Value}{ds:List Deferred}{cs gv:List Frame}{k:List Item}
theorem VD{f:Operand}{l:Nat}{fn:Fn}{a b:Array Value}(ap:c' tmps f=.func fn a b):
 resolve (c' tmps) {callee:=.value f,args:=#[.const (.func (.yield l) #[] #[])],argTypes:=#[]} 0=pure {target:=.fn fn b,args:=a.push (.func (.yield l) #[] #[])}:=by
 have e:#[Operand.const (.func (.yield l) #[] #[])].map (c' tmps)=#[.func (.yield l) #[] #[]]:=by simp[c']
 simp only[resolve,e,ap,Deferred.ofValue];simp
theorem ajy{f:Operand}{params:Array Tmp}{assign body:Code}{l:Nat}{mark:List Deferred}{d' gS:World}{fn:Fn}{a b args:Array Value}{g:FuncId}
 (ax:(Instr.enterLoop fr.fn tmps params assign body fr.roundOf).run P w=.ok (l,mark) d')(ap:c' tmps f=.func fn a b)(ak:(invoke (.fn fn b) (a.push (.func (.yield l) #[] #[]))).run P d'=.ok (.enter g args) gS):
 step P (lone (bG fr tmps ds (.code (.rangeFunc f params assign body)::k)) cs w)=.next (lone (Frame.enter P g args .normal) (bG fr tmps (mark++ds) (.inRangeFunc l::k)::cs) gS):=by
 have he:=Hp (fr:=fr) (tmps:=tmps) (ds:=mark++ds) (.inRangeFunc l::k);simp only[bG] at he;refine step_lone_go ?_;simp only[stepG,stepG.exec,bG,Sem.runT_eq,ax,GStep.bare_after,he,VD ap,pure_bind];simp[stepG.apply,ak]
theorem ajz{f:Operand}{params:Array Tmp}{assign body:Code}{l:Nat}{mark:List Deferred}{d' gS:World}{fn:Fn}{a b:Array Value}{v:Value}
 (ax:(Instr.enterLoop fr.fn tmps params assign body fr.roundOf).run P w=.ok (l,mark) d')(ap:c' tmps f=.func fn a b)(ak:(invoke (.fn fn b) (a.push (.func (.yield l) #[] #[]))).run P d'=.ok (.value v) gS):
 step P (lone (bG fr tmps ds (.code (.rangeFunc f params assign body)::k)) cs w)=.next (lone (bG fr tmps (mark++ds) (.endRangeFunc l::k)) cs gS):=by
 have he:=Hp (fr:=fr) (tmps:=tmps) (ds:=mark++ds) (.inRangeFunc l::k);simp only[bG] at he;refine step_lone_go ?_;simp only[stepG,stepG.exec,bG,Sem.runT_eq,ax,GStep.bare_after,he,VD ap,pure_bind];simp[stepG.apply,ak,Frame.finish]
theorem ajx{l:Nat}{jump:Option Code}(ax:(Instr.endLoop l).run P w=.ok jump bb):
 step P (lone (bG fr tmps ds (.endRangeFunc l::k)) cs w)=.next (lone (bG fr tmps ds ((jump.map Item.code).toList++k)) cs bb):=
 step_lone_go (by simp[stepG,stepG.exec,bG,ax])
theorem ain(h:bR P B w0 μ H w)(aw:hM μ S fr tmps ds cs){d:Nat}{fH:List Deferred}(he:FP S H=some (d,fH,H1)){params:Array Tmp}{assign body:Code}{l:Nat}{bZ:ao}
 (aM:H1.new (.loop {state:=.ready,pending:=none,T:=S.T,n:=S.n,params:=params.toList,assign:=assign,body:=body,gh:=d})=some (l,bZ)):
 ∃iV gS mark L,(Instr.enterLoop fr.fn tmps params assign body fr.roundOf).run P w=.ok (L.r,mark) gS/\bR P B w0 iV bZ gS/\Step μ iV H bZ/\iV l=some L/\rV iV fH (mark++ds)/\bZ.bq<=l:=by
 --sZ loop an3,from sZ block for sZ deferred calls on
 have fin:∀(e':bH) (d':World) (mark:List Deferred) (fE:Loc),bR P B w0 e' H1 d'->Step μ e' H H1->e' d=some fE->rV e' fH (mark++ds)->
  (Instr.enterLoop fr.fn tmps params assign body fr.roundOf).run P w=.ok (d'.heap.size,mark) (d'.alloc (.loop {state:=.ready,pending:=none,fn:=fr.fn,tmps:=tmps,params:=params,assign:=assign,body:=body,defers:=fE.r}))->
  ∃iV gS mark L,(Instr.enterLoop fr.fn tmps params assign body fr.roundOf).run P w=.ok (L.r,mark) gS/\bR P B w0 iV bZ gS/\Step μ iV H bZ/\iV l=some L/\rV iV fH (mark++ds)/\bZ.bq<=l:=by
  intro e' d' mark fE aa s1 aS hI gK;have g9:=aa.tE ⟨d'.heap.size,0,0⟩
  obtain⟨ct,eM,ay⟩:=aa.made (o:=.loop {state:=.ready,pending:=none,fn:=fr.fn,tmps:=tmps,params:=params,assign:=assign,body:=body,defers:=fE.r}) (L:=⟨d'.heap.size,0,0⟩) aM rfl rfl
   ⟨rfl,rfl,rfl,rfl,rfl,(aw.t.mono s1.ext).mono g9,fE,g9 _ _ aS,rfl⟩
  subst ay;refine⟨_,_,mark,⟨d'.heap.size,0,0⟩,gK,ct,s1.trans eM,bH.jB _ _ _,hI.mono g9,?_⟩;rw[eM.bq];exact aa.kc
 unfold FP at he;cases xu:S.cB with
 |some l0=>
  rw[xu] at he;simp only at he;cases hm:H.mem.get l0 with
  |none=>rw[hm] at he;cases he
  |some b=>
   rw[hm] at he;cases b with
   |loop v7=>
    simp only[b6,da] at he;obtain⟨rfl,rfl,rfl⟩:=he;obtain⟨alL,acd,mq⟩:=aw.z3 l0 xu;obtain⟨aoP,sC,xq⟩:=Fj h acd hm;obtain⟨bE,bS,cJ,gy,nD,r5,bw,Dc,Dd⟩:=xq;refine fin μ w [] bw h (Step.refl _ _) Dc aw.d ?_;rw[mq];simp[Instr.enterLoop,Instr.getLoop,getObj,newObj,Sem.run,sC,Dd]
   |_=>cases he
 |none=>
  rw[xu] at he;simp only at he;cases mV:H.new (.gh (some [])) with
  |none=>rw[mV] at he;cases he
  |some p=>
   obtain⟨r,alJ⟩:=p;rw[mV] at he;simp only[b6,da] at he;obtain⟨rfl,rfl,rfl⟩:=he;obtain⟨ct,eM,ay⟩:=h.made (o:=.deferred (some [])) (L:=⟨w.heap.size,0,0⟩) mV rfl rfl ⟨rfl,.inl rfl⟩;subst ay;refine fin _ _ [{target:=.collected w.heap.size,args:=#[]}] ⟨w.heap.size,0,0⟩ ct eM (bH.jB _ _ _) (.cons _ _ _ _ (.inr ⟨H.af,⟨w.heap.size,0,0⟩,rfl,bH.jB _ _ _,rfl⟩) (aw.d.mono eM.ext)) ?_;rw[aw.uv xu];simp[Instr.enterLoop,newObj,Sem.run]
theorem VA{E:fY}(hP:o1 P B w0 E.call):P5 P B w0 E:=by
 intro f params assign body S H e aO H' he μ w fr tmps ds cs k h aw;unfold AZ at he;cases c0:FP S H with
 |none=>rw[c0] at he;cases he
 |some p=>
  obtain⟨d,fH,H1⟩:=p;rw[c0] at he;simp only at he;cases aM:H1.new (.loop {state:=.ready,pending:=none,T:=S.T,n:=S.n,params:=params.toList,assign:=assign,body:=body,gh:=d}) with
  |none=>rw[aM] at he;cases he
  |some p=>
   obtain⟨l,bZ⟩:=p;rw[aM] at he;simp only at he;obtain⟨iV,gS,mark,L,aZ,aR,bY,ep,gl,kY⟩:=ain h aw c0 aM;have xa:hM iV {S with ds:=fH} fr tmps (mark++ds) cs:=by
    have:=aw.mono bY.ext;exact⟨this.t,gl,this.kind,this.uv,this.z3,this.b8⟩
   have alM:Reached P B w0 μ H S fr cs {S with ds:=fH} bZ iV gS tmps (mark++ds) cs:=⟨aR,bY,xa,jH.refl _ _ aw.tQ,rfl,rfl⟩;cases dU:a6 S.T bZ f with
   |none=>rw[dU] at he;cases he
   |some fv=>
    rw[dU] at he;have ke:=sQ aR xa.t (T:=S.T) dU;cases fv with
    |func fn first captured=>
     have he:(match mj P bZ fn (first.toList++[.func (.yield l) #[] #[]]) captured.toList with|none=>none|some (g,bJ)=>Od {S with ds:=fH} l (E.body g bJ false .run bZ))=some (e,aO,H'):=he
     cases gN:mj P bZ fn (first.toList++[.func (.yield l) #[] #[]]) captured.toList with
     |none=>rw[gN] at he;cases he
     |some p=>
      obtain⟨g,bJ⟩:=p;rw[gN] at he;simp only at he;rcases ke.A5 with⟨bA,b',ap,sA,aa,ab⟩|⟨l',bw,rfl,_,rfl,rfl,ap⟩
      ·have ah:bN iV [Value.func (.yield l) #[] #[]] [Value.func (.yield L.r) #[] #[]]:=bN.cons (.yield l L ep) (bN.nil _);obtain⟨ih,bl,bF⟩:=K' (w:=gS) (aa.append ah) ab gN;have Qa:(invoke (.fn fn b') (bA.push (.func (.yield L.r) #[] #[]))).run P gS=(callFunc g ih.toArray).run P gS:=by
        rw[<-bl];have aD:(bA.toList++[Value.func (.yield L.r) #[] #[]]).toArray=bA.push (.func (.yield L.r) #[] #[]):=by apply qI;simp
        have a5:b'.toList.toArray=b':=by simp
        rw[aD,a5]
       cases ai:E.body g bJ false .run bZ with
       |none=>rw[ai] at he;cases he
       |some p=>
        obtain⟨x,b8,gf⟩:=p;rw[ai] at he;have av:E.call g bJ bZ=some (x,gf):=by unfold fY.call;rw[ai]
        --sZ an8 end
        have fin:∀(ob:bH) (ia:World) (v:Value),x=.returned v->bR P B w0 ob gf ia->Step iV ob bZ gf->Steps P (lone (bG fr tmps ds (.code (.rangeFunc f params assign body)::k)) cs w) (lone (bG fr tmps (mark++ds) (.endRangeFunc L.r::k)) cs ia)->
         lk P B w0 μ H S fr cs (lone (bG fr tmps ds (.code (.rangeFunc f params assign body)::k)) cs w) k aO H' e:=by
         intro ob ia v I aK h2 al;subst I;have he:FO {S with ds:=fH} l gf=some (e,aO,H'):=he;unfold FO at he;cases vA:gf.mem.get l with
         |none=>rw[vA] at he;cases he
         |some b=>
          rw[vA] at he;cases b with
          |loop fK=>
           have y':ob l=some L:=h2.ext _ _ ep;obtain⟨Cj,MW,MX⟩:=Fj aK y' vA;obtain⟨kG,nx,qG,oY,rR,s6,uD⟩:=MX;have Bf:gf.bq<=l:=by rw[h2.bq];exact kY
           have zt:fK.state≠.busy/\∃jI,gf.upd l (.loop {fK with state:=.exhausted})=some jI/\Oe {S with ds:=fH} fK.pending jI=some (e,aO,H'):=by
            simp only at he;cases al:fK.state with
            |busy=>simp only[al] at he;cases he
            |_=>
             simp only[al] at he;cases hu:gf.upd l (.loop {fK with state:=.exhausted}) with
             |none=>rw[hu] at he;cases he
             |some jI=>rw[hu] at he;exact⟨(fun q=>by cases q),jI,rfl,he⟩
           obtain⟨zt,jI,hu,he⟩:=zt;obtain⟨k5,hY⟩:=O7 (ur:={Cj with state:=.exhausted}) aK y' Bf vA hu ⟨rfl,nx,qG,oY,rR,s6,uD⟩;have q':(Instr.endLoop L.r).run P ia=.ok fK.pending {ia with heap:=ia.heap.setIfInBounds L.r (.loop {Cj with state:=.exhausted})}:=by
            have kw:¬Cj.state=.busy:=by rw[kG];exact zt
            simp[Instr.endLoop,Instr.getLoop,getObj,setObj,Sem.run,MW,kw,nx]
           have EV:=al.trans (.one (ajx q'))
           have Ke:Reached P B w0 μ H S fr cs {S with ds:=fH} jI ob {ia with heap:=ia.heap.setIfInBounds L.r (.loop {Cj with state:=.exhausted})} tmps (mark++ds) cs:=
            ⟨k5,(bY.trans h2).trans hY,xa.mono h2.ext,jH.refl _ _ aw.tQ,rfl,rfl⟩
           cases Bv:fK.pending with
           |none=>
            rw[Bv] at he EV;have he:some (Exit.normal,{S with ds:=fH},jI)=some (e,aO,H'):=he;simp only[b6,da] at he;obtain⟨rfl,rfl,rfl⟩:=he;exact⟨_,_,_,_,_,Ke,EV⟩
           |some c=>
            rw[Bv] at he EV;cases c with
            |ret=>
             have he:some (Exit.ret,{S with ds:=fH},jI)=some (e,aO,H'):=he;simp only[b6,da] at he;obtain⟨rfl,rfl,rfl⟩:=he;exact⟨_,_,_,_,_,k,Ke,EV⟩
            |exit id=>
             have he:some (Exit.exit id,{S with ds:=fH},jI)=some (e,aO,H'):=he;simp only[b6,da] at he;obtain⟨rfl,rfl,rfl⟩:=he;exact⟨_,_,_,_,_,k,Ke,rfl,EV⟩
            |_=>cases he
          |_=>cases he
        rcases hP g bJ bZ x gf av iV gS ih aR bF with⟨hr,v',bb,bk,aD,a5,cC,e0,ch⟩|⟨aD,a5⟩
        ·exact fin bk bb hr aD cC e0 (.one (ajz aZ ap (Qa.trans a5)))
        ·obtain⟨bn,bb,RW,⟨bk,b4,bX,cg⟩,Bb,_,Bn⟩:=a5 (bG fr tmps (mark++ds) (.inRangeFunc L.r::k)::cs);have SN:=ajy (cs:=cs) (k:=k) (ds:=ds) aZ ap (Qa.trans aD);cases bn with
         |returned v'=>
          cases x with
          |returned v=>
           refine fin bk bb v rfl b4 bX ?_;have:=step_leave_returned (cs:=cs) (c:=bG fr tmps (mark++ds) (.inRangeFunc L.r::k)) Bn;exact .head SN (Steps.trans Bb (.one this))
          |panicked c=>exact cg.elim
          |outgrown=>exact cg.elim
         |panicked b1=>
          cases x with
          |returned v=>exact cg.elim
          |outgrown=>exact cg.elim
          |panicked c=>
           have he:some (Exit.panic c,{S with ds:=fH},gf)=some (e,aO,H'):=he;simp only[b6,da] at he;obtain⟨rfl,rfl,rfl⟩:=he;have ad6:=step_leave_panicked (cs:=cs) (c:=bG fr tmps (mark++ds) (.inRangeFunc L.r::k)) Bn;refine⟨bk,bb,tmps,mark++ds,cs,b1,.inRangeFunc L.r::k,⟨b4,bY.trans bX,xa.mono bX.ext,jH.refl _ _ aw.tQ,rfl,rfl⟩,cg,?_⟩;exact .head SN (Steps.trans Bb (.one ad6))
         |outgrown=>cases x<;>exact cg.elim
      ·cases gN
    |_=>cases he
theorem aa8{gI:aX Func}(dC:uP P gI):∀n,∀(B:Nat->Prop) (w0:World),qJ P B w0 (tD P gI n).code/\wq P B w0 (tD P gI n).body/\o1 P B w0 (tD P gI n).call:=by
 intro n;induction n with
 |zero=>
  intro B w0;exact⟨(fun c S H e aO H' he=>by cases he),(fun f args b8 H e my H' he=>by cases he),(fun f args H e H' he=>by cases he)⟩
 |succ n aG=>
  intro B w0;obtain⟨aa,ab,aK⟩:=aG B w0;exact⟨RE dC.qm aa (fun hU ib _ _=>(aG hU ib).2.2) (fun hU ib _ _=>JL (aG hU ib).1) (VA aK),aaA dC aa ab,RB dC aa ab⟩
theorem aa7{gI:aX Func}(dC:uP P gI)(n:Nat):qJ P B w0 (tD P gI n).code/\wq P B w0 (tD P gI n).body/\o1 P B w0 (tD P gI n).call:=aa8 dC n B w0
end
end
end Go.Cre
namespace Go.Cre
noncomputable section
open Go.RowKit
section
variable {P:Program}{w:World}{H:ao}
structure Laid (P:Program) (w:World) (H:ao):Prop where
 br:H.br=.leaf
 af:H.af=H.bq
 rows:∀g b,H.mem.get g=some b->b=.dead\/∃cells e f,b=.row cells e false 0 se true/\g<H.bq/\w.heap[g]?=some (.cells cells.toArray e f)/\cells.all plain=true/\cells.length<=se
def DU (P:Program)(H:ao):bH:=fun g=>match H.mem.get g with
 |some (.row cells e _ _ _ _)=>some ⟨g,cells.length,P.cellsOf e⟩
 |_=>none
theorem abi(h:Laid P w H):bR P (fun k=>k<w.heap.size) w (DU P H) H w:=by
 have inv:∀g L,DU P H g=some L->∃cells e f,H.mem.get g=some (.row cells e false 0 se true)/\L=⟨g,cells.length,P.cellsOf e⟩/\g<H.bq/\w.heap[g]?=some (.cells cells.toArray e f)/\cells.all plain=true/\cells.length<=se:=by
  intro g L q;unfold DU at q;cases hm:H.mem.get g with
  |none=>rw[hm] at q;cases q
  |some b=>
   rw[hm] at q;rcases h.rows g b hm with rfl|⟨cells,e,f,rfl,bl,bF,bO,b3⟩
   ·cases q
   ·injection q with q;subst q
    exact⟨cells,e,f,rfl,rfl,bl,bF,bO,b3⟩
 refine⟨Kept.refl _ _,fun _ aH=>aH,?_,?_,?_,?_,?_,?_,by rw[h.af];exact dH _,?_,?_,?_⟩
 ·intro g L q;obtain⟨cells,e,f,bl,rfl,bO,b3,c2,cX⟩:=inv g L q;refine⟨_,_,bl,b3,rfl,by simp,rfl,dH _,fun _=>rfl,fun i v v' x y=>?_,⟨fun off an _ _=>uO an cX,fun q=>by cases q⟩⟩;have:v=v':=by
   rw[XJ] at y;rw[x] at y;injection y
  subst this;exact oO (qK.1 c2 v (cV x))
 ·intro x y fE gF fp I ah ax;obtain⟨_,_,_,_,rfl,_⟩:=inv x fE I;obtain⟨_,_,_,_,rfl,_⟩:=inv y gF ah;exact absurd ax fp
 ·intro x L I;obtain⟨_,_,_,_,_,a,_⟩:=inv x L I;rw[h.af];exact a
 ·intro x L I _;obtain⟨_,_,_,_,rfl,_⟩:=inv x L I;rfl
 ·intro x L I ar _;obtain⟨_,_,_,_,_,a,_⟩:=inv x L I;omega
 ·intro g c e o f z s _ hm;exact⟨⟨g,c.length,P.cellsOf e⟩,by unfold DU;rw[hm]⟩
 ·intro x c e f z s hm;rcases h.rows x _ hm with q|⟨_,_,_,q,_⟩<;>cases q
 ·intro f l x ay;rw[h.br] at ay;cases ay
 ·intro f l ay;rw[h.br] at ay;cases ay
def isTrue (x:Option (Ending×FrameMode×ao)):Bool:=match x with|some (.returned (.bool b),_,_)=>b|_=>false
theorem Zw{gI:aX Func}(dC:uP P gI){n:Nat}{f:FuncId}{fn:Func}{c:Code}(aw:P.funcs[f]?=some fn)(ai:fn.body=some c)(h:Laid P w H)(he:isTrue ((tD P gI n).body f [] false .run H)=true):
 Calls P f #[] w fun e bb=>e=.returned (.bool true)/\Below w.heap.size w bb:=by
 cases ax:(tD P gI n).body f [] false .run H with
 |none=>rw[ax] at he;cases he
 |some p=>
  obtain⟨e,b8,H'⟩:=p;rw[ax] at he;have av:(tD P gI n).call f [] H=some (e,H'):=by unfold fY.call;rw[ax]
  have al:=(aa7 (B:=fun k=>k<w.heap.size) (w0:=w) dC n).2.2 f [] H e H' av (DU P H) w [] (abi h) (bN.nil _);rcases al with⟨v,v',bb,bk,_,q,_⟩|⟨_,q⟩
  ·rw[DK aw ai (dC.num f fn aw (by rw[ai];rfl))] at q;cases q
  ·refine Calls.mono q fun bn bb ⟨bk,b4,bX,cg⟩=>?_;cases e with
   |returned v=>
    cases v with
    |bool b=>
     have he:b=true:=he;subst he;cases bn with
     |returned v'=>
      have ap:bj bk (.bool true) v':=cg;rw[ap.Di];exact⟨rfl,b4.below.below⟩
     |panicked c=>exact cg.elim
     |outgrown=>exact cg.elim
    |_=>cases he
   |panicked c=>cases he
   |outgrown=>cases he
theorem OQ{α:Type}:∀{l:List α} {i:Nat} {T dP:aX α},wh l i T=some dP->∀t,dP.get t=if i<=t/\t<i+l.length then l[t -i]? else T.get t:=by
 intro l;induction l with
 |nil=>intro i T dP h t;simp[wh] at h;subst h;rw[aq (by rw[CT];omega)]
 |cons v l aG=>
  intro i T dP h t;simp only[wh] at h;cases al:aX.set Cu T i v with
  |none=>rw[al] at h;cases h
  |some o3=>
   rw[al] at h;rw[aG h t,aX.Lt al];by_cases aa:i+1<=t/\t<i+1+l.length
   ·rw[aF aa,aF (by rw[j2];omega)];have:t -i=(t -(i+1))+1:=by omega
    rw[this];rfl
   ·rw[aq aa];by_cases ab:t=i
    ·subst ab;rw[aF rfl,aF (by simp)];simp
    ·rw[aq ab,aq (by rw[j2];omega)]
def A3 (P:Program):aX Func:=match wh P.funcs.toList 0 .leaf with|some t=>t|none=>.leaf
def NN (P:Program):Bool:=P.funcs.toList.all fun fn=>fn.body.isNone||!(fn.name== "runtime.NumGoroutine")
theorem Vj(hm:P.follows .mixedOrders=true)(aM:NN P=true):uP P (A3 P):=by
 refine⟨hm,fun f fn h=>?_,fun f fn aw ai=>?_⟩
 ·unfold A3 at h;cases aN:wh P.funcs.toList 0 .leaf with
  |none=>rw[aN] at h;cases h
  |some t=>
   rw[aN] at h;rw[OQ aN] at h;split at h
   ·simpa using h
   ·cases h
 ·unfold NN at aM;rw[qK] at aM;have:=aM fn (by simpa using Gi aw);cases ou:fn.body with
  |none=>rw[ou] at ai;cases ai
  |some c=>simpa[ou] using this
def lay (T:aX fa):List (Nat×TypeId×List Value)->aX fa
 |[]=>T
 |(g,e,cells)::l=>match aX.put (.row cells e false 0 se true) (lay T l) g with
  |some dP=>dP
  |none=>lay T l
theorem afs{T:aX fa}:∀{l:List (Nat×TypeId×List Value)} {g:Nat} {b:fa},(lay T l).get g=some b->T.get g=some b\/∃e cells,(g,e,cells)∈l/\b=.row cells e false 0 se true:=by
 intro l;induction l with
 |nil=>intro g b h;exact .inl h
 |cons x l aG=>
  intro g b h;obtain⟨Hs,e,cells⟩:=x;simp only[lay] at h;cases au:aX.put (fa.row cells e false 0 se true) (lay T l) Hs with
  |none=>
   rw[au] at h;rcases aG h with q|⟨bn,b1,aZ,aR⟩
   ·exact .inl q
   ·exact .inr ⟨bn,b1,by simp[aZ],aR⟩
  |some dP=>
   rw[au] at h;simp only at h;rw[aX.get_put au] at h;by_cases ar:g=Hs
   ·subst ar;rw[aF rfl] at h;injection h with h
    exact .inr ⟨e,cells,by simp,h.symm⟩
   ·rw[aq ar] at h;rcases aG h with q|⟨bn,b1,aZ,aR⟩
    ·exact .inl q
    ·exact .inr ⟨bn,b1,by simp[aZ],aR⟩
def RQ (n d:Nat)(l:List (Nat×TypeId×List Value)):ao:=⟨lay (aX.full .dead d) l,n,.leaf,0,n⟩
theorem afp{n d:Nat}{l:List (Nat×TypeId×List Value)}(h:∀g e cells,(g,e,cells)∈l->g<n/\(∃f,w.heap[g]?=some (.cells cells.toArray e f))/\cells.all plain=true/\cells.length<=se):Laid P w (RQ n d l):=by
 refine⟨rfl,rfl,fun g b ai=>?_⟩;rcases afs ai with q|⟨e,cells,aZ,aR⟩
 ·rcases aX.R0 fa.dead d g with r|r
  ·rw[r] at q;cases q
  ·rw[r] at q;injection q with q;exact .inl q.symm
 ·obtain⟨bl,⟨f,bF⟩,bO,b3⟩:=h g e cells aZ;exact .inr ⟨cells,e,f,aR,bl,bF,bO,b3⟩
end
end
end Go.Cre
namespace Go.Cre
noncomputable section
open Go.ChangeShapes
end
end Go.Cre
namespace Go.Cre
noncomputable section
open Go.RowKit
section
variable {P:Program}{B:Nat->Prop}{w0 w:World}{μ:bH}{H:ao}{S:aQ}{fr:Frame}{tmps:Array Value}{ds:List Deferred}{cs:List Frame}
end
end
end Go.Cre
namespace Go.Cre
noncomputable section
open Go.RowKit
section
variable {P:Program}{B:Nat->Prop}{w0 w bb:World}{μ:bH}{H H0:ao}
theorem bR.grow(h:bR P B w0 μ H w)(ai:Below w.heap.size w bb):bR P B w0 μ H bb:=by
 have cP:∀x bw,μ x=some bw->bw.r<w.heap.size:=fun x bw I=>by
  obtain⟨b',o',_,an,_⟩:=h.fS x bw I;rcases jo bw.r w.heap.size with ez|ez
  ·exact ez
  ·rw[rT ez] at an;cases an
 refine⟨h.below.trans (.ago ai h.nf),fun k aH=>uO (h.nf k aH) ai.size,fun x L I=>?_,h.sep,h.lt,h.own,h.new,h.si,h.kc,h.pX,h.kQ,h.tF⟩;obtain⟨b,o,aa,ab,aK⟩:=h.fS x L I;exact⟨b,o,aa,by rw[ai.block _ (cP x L I)];exact ab,aK⟩
def Gs(H0:ao)(B:Nat->Prop):Prop:=∀g b,H0.mem.get g=some b->b≠.dead->B g
theorem Laid.e7{B:Nat->Prop}(h:Laid P w0 H0)(dF:Gs H0 B)(aH:Kept B w0 w):Laid P w H0:=by
 refine⟨h.br,h.af,fun g b ar=>?_⟩;rcases h.rows g b ar with q|⟨cells,e,f,aZ,aR,bY,ep,gl⟩
 ·exact .inl q
 ·exact .inr ⟨cells,e,f,aZ,aR,by rw[aH.block g (dF g b ar (by rw[aZ];intro q;cases q))];exact bY,ep,gl⟩
theorem Laid.vL(h:Laid P w0 H0):Gs H0 (fun k=>k<w0.heap.size):=fun g b ar ai=>by
 rcases h.rows g b ar with q|⟨cells,e,f,aZ,aR,bY,ep,gl⟩
 ·exact absurd q ai
 ·exact(Pp.1 bY).1
def aS:Code->Code
 |.seq a _=>a
 |c=>c
def Ct:Code->Code
 |.seq _ b=>b
 |_=>.skip
end
end
end Go.Cre
namespace Go.Cre
noncomputable section
end
end Go.Cre

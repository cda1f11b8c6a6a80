/- A part of the proof of TableBounds. -/
import Derived.Test.YtccpobhlccjkiaaGreatDoorCae
import Derived.ChangeSame
import Derived.Lib.LaidTab
import Init
set_option linter.defProp false
set_option linter.unusedVariables false
set_option linter.unusedSimpArgs false
namespace Go.Cre
noncomputable section
open Go.RowKit
section
variable {P:Program}{B:Nat->Prop}{w0 w a':World}{μ fO bh:bU}{H H1 H':aw}{S a3 aL:aY}{fr:Frame}{tmps:Array Value}{ds:List Deferred}{cs g4:List Frame}{k:List Item}
def aw4{n:Nat}:∀{ps:List Tmp} {args bV:List Value} {T ea:aZ Value} {tmps:Array Value},vR T ps args=some ea->bW μ args bV->lj μ T n tmps->wI n ps=true->
 ps.length=bV.length/\lj μ ea n ((ps.zip bV).foldl (fun tmps (x:Tmp×Value)=>tmps.setIfInBounds x.1 x.2) tmps):=by
 intro ps;induction ps with
 |nil=>
  intro args bV T ea tmps he aj aM _;cases args with
  |nil=>
   obtain rfl:=aj.mf;simp[vR] at he;subst he;exact⟨I,aM⟩
  |cons=>simp[vR] at he
 |cons t ps aC=>
  intro args bV T ea tmps he aj aM ak;cases args with
  |nil=>simp[vR] at he
  |cons v args=>
   obtain⟨v',a9,rfl,ae,ag⟩:=aj.kg;simp only[vR] at he;simp only[wI,gQ] at ak;have cI:t<n:=iE ak.1;cases hs:aZ.set Gn T t v with
   |none=>rw[hs] at he;cases he
   |some rj=>
    rw[hs] at he;have Uq:lj μ rj n (tmps.setIfInBounds t v'):=by
     refine⟨by simpa using aM.1,fun x u q=>?_⟩;rw[aZ.Sc hs] at q;by_cases U:x=t
     ·subst U;rw[aP I] at q;injection q with q;subst q
      have:(tmps.setIfInBounds x v').getD x undef=v':=by
       have:x<tmps.size:=kw cI aM.1;simp[this]
      rw[this];exact ae
     ·rw[aG U] at q;have:(tmps.setIfInBounds t v').getD x undef=tmps.getD x undef:=by
       simp[Xr (Ne.symm U)]
      rw[this];exact aM.2 x u q
    obtain⟨a,b⟩:=aC he ag Uq ak.2;exact⟨by simp[a],b⟩
def ayX{l:Nat}{v:Value}{c:Frame}(ar:fr.roundOf=some l)(hk:fr.kind=.normal)(hE:(Instr.endRound l none).run P w=.ok v a'):
 step P (lone (bR fr tmps ds []) (c::cs) w)=.next (lone (c.finish v) cs a'):=step_lone_go (by simp[stepG,stepG.exec,bR,ar,hE,doReturn,hk])
def ayZ{l:Nat}{v:Value}{c:Frame}(ar:fr.roundOf=some l)(hk:fr.kind=.normal)(hE:(Instr.endRound l (some .ret)).run P w=.ok v a'):
 step P (lone (bR fr tmps ds (.code .ret::k)) (c::cs) w)=.next (lone (c.finish v) cs a'):=step_lone_go (by simp[stepG,stepG.exec,bR,ar,hE,doReturn,hk])
def ayY{l id:Nat}{v:Value}{c:Frame}(ar:fr.roundOf=some l)(hk:fr.kind=.normal)(he:exitTo id k=none)(hE:(Instr.endRound l (some (.exit id))).run P w=.ok v a'):
 step P (lone (bR fr tmps ds (.code (.exit id)::k)) (c::cs) w)=.next (lone (c.finish v) cs a'):=step_lone_go (by simp[stepG,stepG.exec,bR,ar,he,hE,doReturn,hk])
def ayO{l:Nat}(ar:fr.roundOf=some l)(hE:(Instr.beginRound l).run P w=.ok () a'):
 step P (lone (bR fr tmps ds (.beginRound::k)) cs w)=.next (lone (bR fr tmps ds k) cs a'):=step_lone_go (by simp[stepG,stepG.exec,stepG.apply,bR,ar,hE,Frame.finish])
def JT(h:bZ P B w0 μ H w){l:Nat}{L:Loc}{r:qj}(bi:μ l=some L)(hm:H.mem.get l=some (.loop r)):
 ∃cu,w.heap[L.r]?=some (.loop cu)/\kP P μ L (.loop r) (.loop cu):=by
 obtain⟨b,o,aN,aH,bo⟩:=h.gS l L bi;rw[hm] at aN;injection aN with aN;subst aN
 cases o with
 |loop cu=>exact⟨cu,aH,bo⟩
 |_=>exact bo.elim
def Xa(h:bZ P B w0 μ H w){l:Nat}{L:Loc}{r dc:qj}{xO:Loop}(bi:μ l=some L)(aB:H.bJ<=l)(hm:H.mem.get l=some (.loop r))(hu:H.upd l (.loop dc)=some H')(ak:kP P μ L (.loop dc) (.loop xO)):
 bZ P B w0 μ H' {w with heap:=w.heap.setIfInBounds L.r (.loop xO)}/\Step μ μ H H':=
 h.ahH bi aB hm (fun _ _ _ _ _ _ q=>by cases q) (fun q=>by cases q) hu (fun _ _ _ _ _ _ q=>by cases q) ak
def PQ{E:gu}(Au:tk P B w0 E.code):yf P B w0 E.aO:=by
 intro l args H e H' he μ w L bV h bi aj;unfold gu.aO at he;cases hm:H.mem.get l with
 |none=>rw[hm] at he;cases he
 |some b=>
  rw[hm] at he;cases b with
  |loop r=>
   simp only at he;cases ax:(Nat.ble H.bJ l&&wI r.n r.params) with
   |false=>rw[ax] at he;cases he
   |true=>
    rw[ax,cd] at he;simp only[gQ] at ax;have aB:=iE ax.1;obtain⟨cu,nt,nu⟩:=JT h bi hm;obtain⟨bc,bl,b0,dp,fD,ev,bM,gH,iy,g3⟩:=nu;cases ap:vR r.T r.params args with
    |none=>rw[ap] at he;cases he
    |some T=>
     rw[ap] at he;have he:Xg E l r.body (E.code r.assign ⟨T,r.n,[],false,.run,some l⟩ H)=some (e,H'):=he;obtain⟨hlen,cq⟩:=aw4 ap aj ev ax.2;cases aI:E.code r.assign ⟨T,r.n,[],false,.run,some l⟩ H with
     |none=>rw[aI] at he;cases he
     |some p=>
      obtain⟨dH,a3,H1⟩:=p;rw[aI] at he;cases dH with
      |normal=>
       have he:KZ E l r.body a3 H1=some (e,H'):=he;unfold KZ at he;cases Cq:H1.mem.get l with
       |none=>rw[Cq] at he;cases he
       |some b=>
        rw[Cq] at he;cases b with
        |loop dc=>
         simp only at he;cases c4:dc.state with
         |ready=>
          simp only[c4] at he;cases hu:H1.upd l (.loop {dc with state:=.busy}) with
          |none=>rw[hu] at he;cases he
          |some bT=>
           rw[hu] at he;have he:PO l (E.code r.body a3 bT)=some (e,H'):=he;cases ak:E.code r.body a3 bT with
           |none=>rw[ak] at he;cases he
           |some p=>
            obtain⟨eP,wE,fL⟩:=p;rw[ak] at he;have he:(match FF eP with|some j=>Dy fL l j|none=>K0 fL eP wE.ds)=some (e,H'):=he
            let qf:Array Value:=(cu.params.zip bV.toArray).foldl (fun tmps (x:Tmp×Value)=>tmps.setIfInBounds x.1 x.2) cu.tmps
            have asc:lj μ T r.n qf:=by
             have aF:qf=(r.params.zip bV).foldl (fun tmps (x:Tmp×Value)=>tmps.setIfInBounds x.1 x.2) cu.tmps:=by
              show(cu.params.zip bV.toArray).foldl _ _=_;rw[<-Array.foldl_toList,Array.toList_zip,b0]
             rw[aF];exact cq
            refine⟨cu.fn,qf,cu.assign,cu.body,?_,?_⟩
            ·have en:bV.toArray.size=cu.params.size:=by
              have:cu.params.size=cu.params.toList.length:=by simp
              rw[this,b0];simpa using hlen.symm
             have NB:bV.length=cu.params.size:=by simpa using en
             simp[Instr.yield,Instr.getLoop,getObj,Sem.run,nt,NB,qf]
            ·intro caller cs
             let l5:Frame:=Frame.round L.r cu.fn qf cu.assign cu.body .normal
             have lJ:l5=bR l5 qf [] [.code cu.assign,.beginRound,.code cu.body]:=rfl
             have bC:iW P μ ⟨T,r.n,[],false,.run,some l⟩ l5 qf [] (caller::cs):=
              ⟨asc,.nil,I,(fun q=>by cases q),(fun a9 q=>by injection q with q;subst q;exact⟨L,bi,I⟩),(fun q=>by cases q),g3⟩
             have bb:=Au r.assign _ H .normal a3 H1 aI μ w l5 qf [] (caller::cs) [.beginRound,.code cu.body] (.code r.assign) h bC (.inl I);rw[<-dp,<-lJ] at bb;obtain⟨fO,bE,t1,d1,g4,jQ,s1⟩:=bb;have abw:g4=caller::cs:=jQ.c;subst abw;have vh:fO l=some L:=jQ.ir.ext _ _ bi;obtain⟨xO,T8,arH⟩:=JT jQ.h vh Cq;obtain⟨gj,g2,iB,o8,uF,GB,GC⟩:=arH;have vt:H1.bJ<=l:=by rw[jQ.ir.bJ];exact aB
             obtain⟨ai2,Qr⟩:=Xa (xO:={xO with state:=.busy}) jQ.h vh vt Cq hu ⟨I,g2,iB,o8,uF,GB,GC⟩;have s2:step P (lone (bR l5 t1 d1 [.beginRound,.code cu.body]) (caller::cs) bE)=.next (lone (bR l5 t1 d1 [.code cu.body]) (caller::cs) {bE with heap:=bE.heap.setIfInBounds L.r (.loop {xO with state:=.busy})}):=by
              refine ayO I ?_;have:xO.state=.ready:=gj.trans c4;simp[Instr.beginRound,Instr.getLoop,getObj,setObj,Sem.run,T8,this]
             have cE:=Au r.body a3 bT eP wE fL ak fO _ l5 t1 d1 (caller::cs) [] (.code r.body) ai2 jQ.f (.inl I);rw[<-fD] at cE;have Ca:a3.bQ=false:=jQ.bQ;cases aW:FF eP with
             |none=>
              rw[aW] at he;have he:K0 fL eP wE.ds=some (e,H'):=he;cases eP with
              |panic bx=>
               cases sN:wE.ds with
               |cons d l=>rw[sN] at he;cases he
               |nil=>
                rw[sN] at he;have he:some (Ending.panicked bx,fL)=some (e,H'):=he;simp only[cb,c8] at he;obtain⟨rfl,rfl⟩:=he;obtain⟨o9,gP,t3,d3,tz,yp,bd,oD,I0,jZ⟩:=cE;have Ta:tz=caller::cs:=by have:=oD.c;rw[Ca] at this;exact this
                subst Ta;have tH:d3=[]:=by have:=oD.f.d;rw[sN] at this;cases this;rfl
                subst tH;exact⟨.panicked yp,gP,o9,oD.h,(jQ.ir.trans Qr).trans oD.ir,I0,(s1.trans (.head s2 jZ)).trans (.one (step_leave_panicked ⟨I,I,oD.f.fn⟩))⟩
              |normal=>cases aW
              |ret=>cases aW
              |exit id=>cases aW
              |goto l=>cases he
              |outgrown=>cases he
             |some j=>
             rw[aW] at he;have he:Dy fL l j=some (e,H'):=he;unfold Dy at he;cases yV:fL.mem.get l with
             |none=>rw[yV] at he;cases he
             |some b=>
              rw[yV] at he;cases b with
              |loop fI=>
               simp only at he;cases Uv:fL.upd l (.loop {fI with state:=if j.isNone then .ready else .done,pending:=j}) with
               |none=>rw[Uv] at he;cases he
               |some lc=>
                rw[Uv] at he;have he:some (Ending.returned (.bool j.isNone),lc)=some (e,H'):=he;simp only[cb,c8] at he;obtain⟨rfl,rfl⟩:=he
                --vY round ends
                have fin:∀(o9:bU) (gP:World) (t3:Array Value) (d3:List Deferred) (tz:List Frame) (todo:List Item),Reached P B w0 fO bT a3 l5 (caller::cs) wE fL o9 gP t3 d3 tz->
                 (∀v Bl,(Instr.endRound L.r j).run P gP=.ok v Bl->step P (lone (bR l5 t3 d3 todo) (caller::cs) gP)=.next (lone (caller.finish v) cs Bl))->
                 Steps P (lone (bR l5 t1 d1 [.code cu.body]) (caller::cs) {bE with heap:=bE.heap.setIfInBounds L.r (.loop {xO with state:=.busy})}) (lone (bR l5 t3 d3 todo) tz gP)->
                 ∃bA a' bh,bZ P B w0 bh lc a'/\Step μ bh H lc/\Br bh (.returned (.bool j.isNone)) bA/\Steps P (lone l5 (caller::cs) w) (lone (ahP caller bA) cs a'):=by
                 intro o9 gP t3 d3 tz todo oD bn jZ;have Ta:tz=caller::cs:=by have:=oD.c;rw[Ca] at this;exact this
                 subst Ta;have B9:o9 l=some L:=oD.ir.ext _ _ vh;obtain⟨Gd,T9,T'⟩:=JT oD.h B9 yV;obtain⟨eH,eQ,ml,Dz,GG,K1,K2⟩:=T';have Tp:fL.bJ<=l:=by rw[oD.ir.bJ,Qr.bJ];exact vt
                 obtain⟨wG,Qq⟩:=Xa (xO:={Gd with state:=if j.isNone then .ready else .done,pending:=j}) oD.h B9 Tp yV Uv ⟨I,I,ml,Dz,GG,K1,K2⟩;refine⟨.returned (.bool j.isNone),_,o9,wG,((jQ.ir.trans Qr).trans oD.ir).trans Qq,bk.atom _ I,?_⟩;refine(s1.trans (.head s2 jZ)).trans (.one (bn _ _ ?_));simp[Instr.endRound,Instr.getLoop,getObj,setObj,Sem.run,T9]
                cases eP with
                |normal=>
                 injection aW with aW;subst aW
                 obtain⟨o9,gP,t3,d3,tz,oD,jZ⟩:=cE;exact fin o9 gP t3 d3 tz [] oD (fun v Bl q=>ayX I I q) jZ
                |ret=>
                 injection aW with aW;subst aW
                 obtain⟨o9,gP,t3,d3,tz,bd,oD,jZ⟩:=cE;exact fin o9 gP t3 d3 tz _ oD (fun v Bl q=>ayZ I I q) jZ
                |exit id=>
                 injection aW with aW;subst aW
                 obtain⟨o9,gP,t3,d3,tz,bd,oD,ex,jZ⟩:=cE;exact fin o9 gP t3 d3 tz _ oD (fun v Bl q=>ayY I I (ex.trans I) q) jZ
                |goto l=>cases aW
                |panic c=>cases aW
                |outgrown=>cases aW
              |_=>cases he
         |done=>simp only[c4] at he;cases he
         |busy=>simp only[c4] at he;cases he
         |exhausted=>simp only[c4] at he;cases he
        |_=>cases he
      |_=>cases he
  |_=>cases he
def aft{f:Operand}{l:Nat}{fn:Fn}{a b:Array Value}(az:dk tmps f=.func fn a b):
 resolve (dk tmps) {callee:=.value f,args:=#[.const (.func (.yield l) #[] #[])],argTypes:=#[]} 0=pure {target:=.fn fn b,args:=a.push (.func (.yield l) #[] #[])}:=by
 have e:#[Operand.const (.func (.yield l) #[] #[])].map (dk tmps)=#[.func (.yield l) #[] #[]]:=by simp[dk]
 simp only[resolve,e,az,Deferred.ofValue];simp
def ay2{f:Operand}{params:Array Tmp}{assign body:Code}{l:Nat}{mark:List Deferred}{bE ct:World}{fn:Fn}{a b args:Array Value}{g:FuncId}
 (ar:(Instr.enterLoop fr.fn tmps params assign body fr.roundOf).run P w=.ok (l,mark) bE)(az:dk tmps f=.func fn a b)(hi:(invoke (.fn fn b) (a.push (.func (.yield l) #[] #[]))).run P bE=.ok (.enter g args) ct):
 step P (lone (bR fr tmps ds (.code (.rangeFunc f params assign body)::k)) cs w)=.next (lone (Frame.enter P g args .normal) (bR fr tmps (mark++ds) (.inRangeFunc l::k)::cs) ct):=by
 have he:=MA (fr:=fr) (tmps:=tmps) (ds:=mark++ds) (.inRangeFunc l::k);simp only[bR] at he;refine step_lone_go ?_;simp only[stepG,stepG.exec,bR,Sem.runT_eq,ar,GStep.bare_after,he,aft az,pure_bind];simp[stepG.apply,hi]
def ay3{f:Operand}{params:Array Tmp}{assign body:Code}{l:Nat}{mark:List Deferred}{bE ct:World}{fn:Fn}{a b:Array Value}{v:Value}
 (ar:(Instr.enterLoop fr.fn tmps params assign body fr.roundOf).run P w=.ok (l,mark) bE)(az:dk tmps f=.func fn a b)(hi:(invoke (.fn fn b) (a.push (.func (.yield l) #[] #[]))).run P bE=.ok (.value v) ct):
 step P (lone (bR fr tmps ds (.code (.rangeFunc f params assign body)::k)) cs w)=.next (lone (bR fr tmps (mark++ds) (.endRangeFunc l::k)) cs ct):=by
 have he:=MA (fr:=fr) (tmps:=tmps) (ds:=mark++ds) (.inRangeFunc l::k);simp only[bR] at he;refine step_lone_go ?_;simp only[stepG,stepG.exec,bR,Sem.runT_eq,ar,GStep.bare_after,he,aft az,pure_bind];simp[stepG.apply,hi,Frame.finish]
def ay1{l:Nat}{jump:Option Code}(ar:(Instr.endLoop l).run P w=.ok jump a'):
 step P (lone (bR fr tmps ds (.endRangeFunc l::k)) cs w)=.next (lone (bR fr tmps ds ((jump.map Item.code).toList++k)) cs a'):=
 step_lone_go (by simp[stepG,stepG.exec,bR,ar])
def axv(h:bZ P B w0 μ H w)(ay:iW P μ S fr tmps ds cs){d:Nat}{gy:List Deferred}(he:Kv S H=some (d,gy,H1)){params:Array Tmp}{assign body:Code}{l:Nat}{bT:aw}
 (aA:H1.new (.loop {state:=.ready,pending:=none,T:=S.T,n:=S.n,params:=params.toList,assign:=assign,body:=body,g6:=d})=some (l,bT)):
 ∃kp ct mark L,(Instr.enterLoop fr.fn tmps params assign body fr.roundOf).run P w=.ok (L.r,mark) ct/\bZ P B w0 kp bT ct/\Step μ kp H bT/\kp l=some L/\uI kp gy (mark++ds)/\bT.bJ<=l:=by
 --vY loop aEM,from vY block for vY deferred calls on
 have fin:∀(fO:bU) (bE:World) (mark:List Deferred) (gU:Loc),bZ P B w0 fO H1 bE->Step μ fO H H1->fO d=some gU->uI fO gy (mark++ds)->
  (Instr.enterLoop fr.fn tmps params assign body fr.roundOf).run P w=.ok (bE.heap.size,mark) (bE.alloc (.loop {state:=.ready,pending:=none,fn:=fr.fn,tmps:=tmps,params:=params,assign:=assign,body:=body,defers:=gU.r}))->
  ∃kp ct mark L,(Instr.enterLoop fr.fn tmps params assign body fr.roundOf).run P w=.ok (L.r,mark) ct/\bZ P B w0 kp bT ct/\Step μ kp H bT/\kp l=some L/\uI kp gy (mark++ds)/\bT.bJ<=l:=by
  intro fO bE mark gU ae s1 av dS hE;have h7:=ae.wY ⟨bE.heap.size,0,0⟩
  obtain⟨cz,cX,aj⟩:=ae.made (o:=.loop {state:=.ready,pending:=none,fn:=fr.fn,tmps:=tmps,params:=params,assign:=assign,body:=body,defers:=gU.r}) (L:=⟨bE.heap.size,0,0⟩) aA I I
   ⟨I,I,I,I,I,(ay.t.mono s1.ext).mono h7,gU,h7 _ _ av,I,ay.fn⟩
  subst aj;refine⟨_,_,mark,⟨bE.heap.size,0,0⟩,hE,cz,s1.trans cX,bU.k9 _ _ _,dS.mono h7,?_⟩;rw[cX.bJ];exact ae.lH
 unfold Kv at he;cases vy:S.cx with
 |some l0=>
  rw[vy] at he;simp only at he;cases hm:H.mem.get l0 with
  |none=>rw[hm] at he;cases he
  |some b=>
   rw[hm] at he;cases b with
   |loop q3=>
    simp only[cb,c8] at he;obtain⟨rfl,rfl,rfl⟩:=he;obtain⟨aBy,B8,qR⟩:=ay.A6 l0 vy;obtain⟨aFI,nt,nu⟩:=JT h B8 hm;obtain⟨bc,bl,b0,dp,fD,ev,bM,gH,iy,g3⟩:=nu;refine fin μ w [] bM h (Step.refl _ _) gH ay.d ?_;rw[qR];simp[Instr.enterLoop,Instr.getLoop,getObj,newObj,Sem.run,nt,iy]
   |_=>cases he
 |none=>
  rw[vy] at he;simp only at he;cases nU:H.new (.g6 (some [])) with
  |none=>rw[nU] at he;cases he
  |some p=>
   obtain⟨r,re⟩:=p;rw[nU] at he;simp only[cb,c8] at he;obtain⟨rfl,rfl,rfl⟩:=he;obtain⟨cz,cX,aj⟩:=h.made (o:=.deferred (some [])) (L:=⟨w.heap.size,0,0⟩) nU I I ⟨I,.inl I⟩;subst aj;refine fin _ _ [{target:=.collected w.heap.size,args:=#[]}] ⟨w.heap.size,0,0⟩ cz cX (bU.k9 _ _ _) (.cons _ _ _ _ (.inr ⟨H.ao,⟨w.heap.size,0,0⟩,I,bU.k9 _ _ _,I⟩) (ay.d.mono cX.ext)) ?_;rw[ay.vU vy];simp[Instr.enterLoop,newObj,Sem.run]
def afl{E:gu}(gT:qk P B w0 E.call):Yl P B w0 E:=by
 intro f params assign body S H e aL H' he μ w fr tmps ds cs k h ay;unfold EF at he;cases c4:Kv S H with
 |none=>rw[c4] at he;cases he
 |some p=>
  obtain⟨d,gy,H1⟩:=p;rw[c4] at he;simp only at he;cases aA:H1.new (.loop {state:=.ready,pending:=none,T:=S.T,n:=S.n,params:=params.toList,assign:=assign,body:=body,g6:=d}) with
  |none=>rw[aA] at he;cases he
  |some p=>
   obtain⟨l,bT⟩:=p;rw[aA] at he;simp only at he;obtain⟨kp,ct,mark,L,aN,aH,bo,db,fH,hS⟩:=axv h ay c4 aA;have nn:iW P kp {S with ds:=gy} fr tmps (mark++ds) cs:=by
    have:=ay.mono bo.ext;exact⟨this.t,fH,this.kind,this.vU,this.A6,this.bg,this.fn⟩
   have aBA:Reached P B w0 μ H S fr cs {S with ds:=gy} bT kp ct tmps (mark++ds) cs:=⟨aH,bo,nn,kR.refl _ _ ay.vm,I,I⟩;cases eF:a5 S.T bT f with
   |none=>rw[eF] at he;cases he
   |some fv=>
    rw[eF] at he;have lJ:=vN aH nn.t (T:=S.T) eF;cases fv with
    |func fn first captured=>
     have he:(match kY P bT fn (first.toList++[.func (.yield l) #[] #[]]) captured.toList with|none=>none|some (g,bP)=>O5 {S with ds:=gy} l (E.body g bP false .run bT))=some (e,aL,H'):=he
     cases hD:kY P bT fn (first.toList++[.func (.yield l) #[] #[]]) captured.toList with
     |none=>rw[hD] at he;cases he
     |some p=>
      obtain⟨g,bP⟩:=p;rw[hD] at he;simp only at he;rcases lJ.EO with⟨bD,b',az,vv,ae,ag⟩|⟨a9,bM,rfl,_,rfl,rfl,az⟩
      ·have an:bW kp [Value.func (.yield l) #[] #[]] [Value.func (.yield L.r) #[] #[]]:=bW.cons (.yield l L db) (bW.nil _);obtain⟨jF,ba,br⟩:=RS (w:=ct) (ae.append an) ag hD;have Yo:(invoke (.fn fn b') (bD.push (.func (.yield L.r) #[] #[]))).run P ct=(callFunc g jF.toArray).run P ct:=by
        rw[<-ba];have aF:(bD.toList++[Value.func (.yield L.r) #[] #[]]).toArray=bD.push (.func (.yield L.r) #[] #[]):=by apply r9;simp
        have aV:b'.toList.toArray=b':=by simp
        rw[aF,aV]
       cases ak:E.body g bP false .run bT with
       |none=>rw[ak] at he;cases he
       |some p=>
        obtain⟨x,bg,fL⟩:=p;rw[ak] at he;have ax:E.call g bP bT=some (x,fL):=by unfold gu.call;rw[ak]
        --vY aE3 end
        have fin:∀(o9:bU) (gP:World) (v:Value),x=.returned v->bZ P B w0 o9 fL gP->Step kp o9 bT fL->Steps P (lone (bR fr tmps ds (.code (.rangeFunc f params assign body)::k)) cs w) (lone (bR fr tmps (mark++ds) (.endRangeFunc L.r::k)) cs gP)->
         m9 P B w0 μ H S fr cs (lone (bR fr tmps ds (.code (.rangeFunc f params assign body)::k)) cs w) k aL H' e:=by
         intro o9 gP v U aE jZ hs;subst U;have he:Ku {S with ds:=gy} l fL=some (e,aL,H'):=he;unfold Ku at he;cases yV:fL.mem.get l with
         |none=>rw[yV] at he;cases he
         |some b=>
          rw[yV] at he;cases b with
          |loop fI=>
           have B9:o9 l=some L:=jZ.ext _ _ db;obtain⟨Gd,T9,T'⟩:=JT aE B9 yV;obtain⟨eH,eQ,ml,Dz,GG,K1,K2⟩:=T';have Tp:fL.bJ<=l:=by rw[jZ.bJ];exact hS
           have AB:fI.state≠.busy/\∃lc,fL.upd l (.loop {fI with state:=.exhausted})=some lc/\V8 {S with ds:=gy} fI.pending lc=some (e,aL,H'):=by
            simp only at he;cases hs:fI.state with
            |busy=>simp only[hs] at he;cases he
            |_=>
             simp only[hs] at he;cases hu:fL.upd l (.loop {fI with state:=.exhausted}) with
             |none=>rw[hu] at he;cases he
             |some lc=>rw[hu] at he;exact⟨(fun q=>by cases q),lc,I,he⟩
           obtain⟨AB,lc,hu,he⟩:=AB;obtain⟨wG,Qq⟩:=Xa (xO:={Gd with state:=.exhausted}) aE B9 Tp yV hu ⟨I,eQ,ml,Dz,GG,K1,K2⟩;have pV:(Instr.endLoop L.r).run P gP=.ok fI.pending {gP with heap:=gP.heap.setIfInBounds L.r (.loop {Gd with state:=.exhausted})}:=by
            have jv:¬Gd.state=.busy:=by rw[eH];exact AB
            simp[Instr.endLoop,Instr.getLoop,getObj,setObj,Sem.run,T9,jv,eQ]
           have y1:=hs.trans (.one (ay1 pV))
           have Qj:Reached P B w0 μ H S fr cs {S with ds:=gy} lc o9 {gP with heap:=gP.heap.setIfInBounds L.r (.loop {Gd with state:=.exhausted})} tmps (mark++ds) cs:=
            ⟨wG,(bo.trans jZ).trans Qq,nn.mono jZ.ext,kR.refl _ _ ay.vm,I,I⟩
           cases T0:fI.pending with
           |none=>
            rw[T0] at he y1;have he:some (Exit.normal,{S with ds:=gy},lc)=some (e,aL,H'):=he;simp only[cb,c8] at he;obtain⟨rfl,rfl,rfl⟩:=he;exact⟨_,_,_,_,_,Qj,y1⟩
           |some c=>
            rw[T0] at he y1;cases c with
            |ret=>
             have he:some (Exit.ret,{S with ds:=gy},lc)=some (e,aL,H'):=he;simp only[cb,c8] at he;obtain⟨rfl,rfl,rfl⟩:=he;exact⟨_,_,_,_,_,k,Qj,y1⟩
            |exit id=>
             have he:some (Exit.exit id,{S with ds:=gy},lc)=some (e,aL,H'):=he;simp only[cb,c8] at he;obtain⟨rfl,rfl,rfl⟩:=he;exact⟨_,_,_,_,_,k,Qj,I,y1⟩
            |_=>cases he
          |_=>cases he
        rcases gT g bP bT x fL ax kp ct jF aH br with⟨d',v',a',bh,aF,aV,cj,eT,cR⟩|⟨aF,aV⟩
        ·exact fin bh a' d' aF cj eT (.one (ay3 aN az (Yo.trans aV)))
        ·obtain⟨bA,a',aar,⟨bh,ca,b7,cw⟩,E1,_,Fb⟩:=aV (bR fr tmps (mark++ds) (.inRangeFunc L.r::k)::cs);have abD:=ay2 (cs:=cs) (k:=k) (ds:=ds) aN az (Yo.trans aF);cases bA with
         |returned v'=>
          cases x with
          |returned v=>
           refine fin bh a' v I ca b7 ?_;have:=step_leave_returned (cs:=cs) (c:=bR fr tmps (mark++ds) (.inRangeFunc L.r::k)) Fb;exact .head abD (Steps.trans E1 (.one this))
          |panicked c=>exact cw.elim
          |outgrown=>exact cw.elim
         |panicked c'=>
          cases x with
          |returned v=>exact cw.elim
          |outgrown=>exact cw.elim
          |panicked c=>
           have he:some (Exit.panic c,{S with ds:=gy},fL)=some (e,aL,H'):=he;simp only[cb,c8] at he;obtain⟨rfl,rfl,rfl⟩:=he;have arI:=step_leave_panicked (cs:=cs) (c:=bR fr tmps (mark++ds) (.inRangeFunc L.r::k)) Fb;refine⟨bh,a',tmps,mark++ds,cs,c',.inRangeFunc L.r::k,⟨ca,bo.trans b7,nn.mono b7.ext,kR.refl _ _ ay.vm,I,I⟩,cw,?_⟩;exact .head abD (Steps.trans E1 (.one arI))
         |outgrown=>cases x<;>exact cw.elim
      ·cases hD
    |_=>cases he
def anE{fR:aZ Func}(cZ:uS P fR):∀n,∀(B:Nat->Prop) (w0:World),tk P B w0 (wX P fR n).code/\wb P B w0 (wX P fR n).body/\qk P B w0 (wX P fR n).call:=by
 intro n;induction n with
 |zero=>
  intro B w0;exact⟨(fun c S H e aL H' he=>by cases he),(fun f args bg H e hl H' he=>by cases he),(fun f args H e H' he=>by cases he)⟩
 |succ n aC=>
  intro B w0;obtain⟨ae,ag,aE⟩:=aC B w0;exact⟨Z8 cZ.r1 ae (fun jf jA _ _=>(aC jf jA).2.2) (fun jf jA _ _=>PQ (aC jf jA).1) (afl aE),Z5 cZ ae ag,RO cZ ae ag⟩
def anD{fR:aZ Func}(cZ:uS P fR)(n:Nat):tk P B w0 (wX P fR n).code/\wb P B w0 (wX P fR n).body/\qk P B w0 (wX P fR n).call:=anE cZ n B w0
end
section
variable {P:Program}{w:World}{H:aw}
structure Laid (P:Program) (w:World) (H:aw):Prop where
 bF:H.bF=.leaf
 ao:H.ao=H.bJ
 rows:∀g b,H.mem.get g=some b->b=.dead\/∃cells e f,b=.row cells e false 0 u' true/\g<H.bJ/\w.heap[g]?=some (.cells cells.toArray e f)/\cells.all plain=true/\cells.length<=u'
def Ij (P:Program)(H:aw):bU:=fun g=>match H.mem.get g with
 |some (.row cells e _ _ _ _)=>some ⟨g,cells.length,P.cellsOf e⟩
 |_=>none
def anP(h:Laid P w H):bZ P (fun k=>k<w.heap.size) w (Ij P H) H w:=by
 have inv:∀g L,Ij P H g=some L->∃cells e f,H.mem.get g=some (.row cells e false 0 u' true)/\L=⟨g,cells.length,P.cellsOf e⟩/\g<H.bJ/\w.heap[g]?=some (.cells cells.toArray e f)/\cells.all plain=true/\cells.length<=u':=by
  intro g L q;unfold Ij at q;cases hm:H.mem.get g with
  |none=>rw[hm] at q;cases q
  |some b=>
   rw[hm] at q;rcases h.rows g b hm with rfl|⟨cells,e,f,rfl,ba,br,bG,cD⟩
   ·cases q
   ·injection q with q;subst q
    exact⟨cells,e,f,I,I,ba,br,bG,cD⟩
 refine⟨Kept.refl _ _,fun _ hk=>hk,?_,?_,?_,?_,?_,?_,by rw[h.ao];exact b2 _,?_,?_,?_⟩
 ·intro g L q;obtain⟨cells,e,f,ba,rfl,bG,cD,cN,ef⟩:=inv g L q;refine⟨_,_,ba,cD,I,by simp,I,b2 _,fun _=>rfl,fun i v v' x y=>?_,⟨fun off al _ _=>kw al ef,fun q=>by cases q⟩⟩;have:v=v':=by
   rw[aio] at y;rw[x] at y;injection y
  subst this;exact q1 (sf.1 cN v (dq x))
 ·intro x y gU h3 eU U an ar;obtain⟨_,_,_,_,rfl,_⟩:=inv x gU U;obtain⟨_,_,_,_,rfl,_⟩:=inv y h3 an;exact absurd ar eU
 ·intro x L U;obtain⟨_,_,_,_,_,a,_⟩:=inv x L U;rw[h.ao];exact a
 ·intro x L U _;obtain⟨_,_,_,_,rfl,_⟩:=inv x L U;rfl
 ·intro x L U aB _;obtain⟨_,_,_,_,_,a,_⟩:=inv x L U;omega
 ·intro g c e o f z s _ hm;exact⟨⟨g,c.length,P.cellsOf e⟩,by unfold Ij;rw[hm]⟩
 ·intro x c e f z s hm;rcases h.rows x _ hm with q|⟨_,_,_,q,_⟩<;>cases q
 ·intro f l x aj;rw[h.bF] at aj;cases aj
 ·intro f l aj;rw[h.bF] at aj;cases aj
def isTrue (x:Option (Ending×FrameMode×aw)):Bool:=match x with|some (.returned (.bool b),_,_)=>b|_=>false
def alm{fR:aZ Func}(cZ:uS P fR){n:Nat}{f:FuncId}{fn:Func}{c:Code}(ay:P.funcs[f]?=some fn)(ak:fn.body=some c)(h:Laid P w H)(he:isTrue ((wX P fR n).body f [] false .run H)=true):
 Calls P f #[] w fun e a'=>e=.returned (.bool true)/\Below w.heap.size w a':=by
 cases ar:(wX P fR n).body f [] false .run H with
 |none=>rw[ar] at he;cases he
 |some p=>
  obtain⟨e,bg,H'⟩:=p;rw[ar] at he;have ax:(wX P fR n).call f [] H=some (e,H'):=by unfold gu.call;rw[ar]
  have hs:=(anD (B:=fun k=>k<w.heap.size) (w0:=w) cZ n).2.2 f [] H e H' ax (Ij P H) w [] (anP h) (bW.nil _);rcases hs with⟨v,v',a',bh,_,q,_⟩|⟨_,q⟩
  ·rw[H6 ay ak (cZ.num f fn ay (by rw[ak];rfl))] at q;cases q
  ·refine Calls.mono q fun bA a' ⟨bh,ca,b7,cw⟩=>?_;cases e with
   |returned v=>
    cases v with
    |bool b=>
     have he:b=true:=he;subst he;cases bA with
     |returned v'=>
      have az:bk bh (.bool true) v':=cw;rw[az.Hw];exact⟨I,ca.below.below⟩
     |panicked c=>exact cw.elim
     |outgrown=>exact cw.elim
    |_=>cases he
   |panicked c=>cases he
   |outgrown=>cases he
def WK{α:Type}:∀{l:List α} {i:Nat} {T ea:aZ α},zE l i T=some ea->∀t,ea.get t=if i<=t/\t<i+l.length then l[t -i]? else T.get t:=by
 intro l;induction l with
 |nil=>intro i T ea h t;simp[zE] at h;subst h;rw[aG (by rw[DT];omega)]
 |cons v l aC=>
  intro i T ea h t;simp only[zE] at h;cases hs:aZ.set Gn T i v with
  |none=>rw[hs] at h;cases h
  |some rj=>
   rw[hs] at h;rw[aC h t,aZ.Sc hs];by_cases ae:i+1<=t/\t<i+1+l.length
   ·rw[aP ae,aP (by rw[ks];omega)];have:t -i=(t -(i+1))+1:=by omega
    rw[this];rfl
   ·rw[aG ae];by_cases ag:t=i
    ·subst ag;rw[aP I,aP (by simp)];simp
    ·rw[aG ag,aG (by rw[ks];omega)]
def EM (P:Program):aZ Func:=match zE P.funcs.toList 0 .leaf with|some t=>t|none=>.leaf
def Vy (P:Program):Bool:=P.funcs.toList.all fun fn=>fn.body.isNone||!(fn.name== "runtime.NumGoroutine")
def ae1(hm:P.follows .mixedOrders=true)(aA:Vy P=true):uS P (EM P):=by
 refine⟨hm,fun f fn h=>?_,fun f fn ay ak=>?_⟩
 ·unfold EM at h;cases aM:zE P.funcs.toList 0 .leaf with
  |none=>rw[aM] at h;cases h
  |some t=>
   rw[aM] at h;rw[WK aM] at h;split at h
   ·simpa using h
   ·cases h
 ·unfold Vy at aA;rw[sf] at aA;have:=aA fn (by simpa using K6 ay);cases kE:fn.body with
  |none=>rw[kE] at ak;cases ak
  |some c=>simpa[kE] using this
def lay (T:aZ fP):List (Nat×TypeId×List Value)->aZ fP
 |[]=>T
 |(g,e,cells)::l=>match aZ.put (.row cells e false 0 u' true) (lay T l) g with
  |some ea=>ea
  |none=>lay T l
def atw{T:aZ fP}:∀{l:List (Nat×TypeId×List Value)} {g:Nat} {b:fP},(lay T l).get g=some b->T.get g=some b\/∃e cells,(g,e,cells)∈l/\b=.row cells e false 0 u' true:=by
 intro l;induction l with
 |nil=>intro g b h;exact .inl h
 |cons x l aC=>
  intro g b h;obtain⟨MH,e,cells⟩:=x;simp only[lay] at h;cases ap:aZ.put (fP.row cells e false 0 u' true) (lay T l) MH with
  |none=>
   rw[ap] at h;rcases aC h with q|⟨bA,c',aN,aH⟩
   ·exact .inl q
   ·exact .inr ⟨bA,c',by simp[aN],aH⟩
  |some ea=>
   rw[ap] at h;simp only at h;rw[aZ.get_put ap] at h;by_cases aB:g=MH
   ·subst aB;rw[aP I] at h;injection h with h
    exact .inr ⟨e,cells,by simp,h.symm⟩
   ·rw[aG aB] at h;rcases aC h with q|⟨bA,c',aN,aH⟩
    ·exact .inl q
    ·exact .inr ⟨bA,c',by simp[aN],aH⟩
def aal (n d:Nat)(l:List (Nat×TypeId×List Value)):aw:=⟨lay (aZ.full .dead d) l,n,.leaf,0,n⟩
def ats{n d:Nat}{l:List (Nat×TypeId×List Value)}(h:∀g e cells,(g,e,cells)∈l->g<n/\(∃f,w.heap[g]?=some (.cells cells.toArray e f))/\cells.all plain=true/\cells.length<=u'):Laid P w (aal n d l):=by
 refine⟨I,I,fun g b ak=>?_⟩;rcases atw ak with q|⟨e,cells,aN,aH⟩
 ·rcases aZ.aaz fP.dead d g with r|r
  ·rw[r] at q;cases q
  ·rw[r] at q;injection q with q;exact .inl q.symm
 ·obtain⟨ba,⟨f,br⟩,bG,cD⟩:=h g e cells aN;exact .inr ⟨cells,e,f,aH,ba,br,bG,cD⟩
end
open Go.ChangeShapes
def ada{P:Program}{W:World}{name:String}{k:IntKind}{gA:List Int}{g:Nat}{t:TypeId}(aB:P.globalNamed name=some g)(cI:g<P.globals.size)
 (ar:(((begin P (fun _ _=>0) default).world.heap[g]?).bind Obj.row?).map (·.2)=some t)(hs:W.ShapedOpen P)(aM:Lib.TabIs P W name k gA):∃f,W.heap[g]?=some (.cells (gA.map fun z=>Value.int k z).toArray t f):=by
 obtain⟨⟨zero,j0⟩,ae,ag⟩:=ri.1 ar;simp only at ag;subst ag;obtain⟨cs,a,_⟩:=hs.1 g zero j0 cI ae;unfold Lib.TabIs World.var? at aM;rw[aB] at aM;simp only[Ye,a,cb] at aM;subst aM;exact⟨_,a⟩
section
variable {P:Program}{B:Nat->Prop}{w0 w:World}{μ:bU}{H:aw}{S:aY}{fr:Frame}{tmps:Array Value}{ds:List Deferred}{cs:List Frame}
end
section
variable {P:Program}{B:Nat->Prop}{w0 w a':World}{μ:bU}{H H0:aw}
def bZ.grow(h:bZ P B w0 μ H w)(ak:Below w.heap.size w a'):bZ P B w0 μ H a':=by
 have cI:∀x bM,μ x=some bM->bM.r<w.heap.size:=fun x bM U=>by
  obtain⟨b',o',_,al,_⟩:=h.gS x bM U;rcases ha bM.r w.heap.size with dB|dB
  ·exact dB
  ·rw[uG dB] at al;cases al
 refine⟨h.below.trans (.avr ak h.ph),fun k hk=>kw (h.ph k hk) ak.size,fun x L U=>?_,h.sep,h.lt,h.own,h.new,h.vd,h.lH,h.sw,h.mv,h.wZ⟩;obtain⟨b,o,ae,ag,aE⟩:=h.gS x L U;exact⟨b,o,ae,by rw[ak.block _ (cI x L U)];exact ag,aE⟩
def Lk(H0:aw)(B:Nat->Prop):Prop:=∀g b,H0.mem.get g=some b->b≠.dead->B g
def Laid.fU{B:Nat->Prop}(h:Laid P w0 H0)(du:Lk H0 B)(hk:Kept B w0 w):Laid P w H0:=by
 refine⟨h.bF,h.ao,fun g b aB=>?_⟩;rcases h.rows g b aB with q|⟨cells,e,f,aN,aH,bo,db,fH⟩
 ·exact .inl q
 ·exact .inr ⟨cells,e,f,aN,aH,by rw[hk.block g (du g b aB (by rw[aN];intro q;cases q))];exact bo,db,fH⟩
def Laid.zb(h:Laid P w0 H0):Lk H0 (fun k=>k<w0.heap.size):=fun g b aB ak=>by
 rcases h.rows g b aB with q|⟨cells,e,f,aN,aH,bo,db,fH⟩
 ·exact absurd q ak
 ·exact(PU.1 bo).1
end
end
end Go.Cre
namespace Go.Opn
noncomputable section
structure a2 where
 z:Int
 d:Nat
def a2.g9(r:a2):Prop:=0<r.d/\Nat.Coprime r.z.natAbs r.d
def a4(z:Int)(d:Nat):a2:=⟨z / ((Nat.gcd z.natAbs d:Nat):Int),d / Nat.gcd z.natAbs d⟩
def AU{z:Int}{d:Nat}(av:0<d):∃(g e:Nat) (q:Int),0<g/\0<e/\z=g*q/\d=g*e/\Nat.Coprime q.natAbs e/\a4 z d=⟨q,e⟩/\g=Nat.gcd z.natAbs d:=by
 have aB:0<Nat.gcd z.natAbs d:=wq _ av;obtain⟨e,he⟩:=uR z.natAbs d;have aR:((Nat.gcd z.natAbs d:Nat):Int) ∣ z:=PZ.2 (tr _ _);obtain⟨q,b3⟩:=aR;have ax:=Lv (m:=z.natAbs) (n:=d) aB;generalize cS:Nat.gcd z.natAbs d=g at*;have ae:z / (g:Int)=q:=by rw[b3];exact Int.mul_ediv_cancel_left _ (by omega)
 have ag:d / g=e:=by rw[he];exact BA _ aB
 have aE:z.natAbs / g=q.natAbs:=by rw[b3,kT,gR];exact BA _ aB
 have aqp:0<e:=by
  rcases oC e with h|h
  ·rw[h] at he;omega
  ·exact h
 refine⟨g,e,q,aB,aqp,b3,he,by rw[aE,ag] at ax;exact ax,?_,I⟩;unfold a4;rw[cS,ae,ag]
def k4{z:Int}{d:Nat}(av:0<d):(a4 z d).g9:=by
 obtain⟨g,e,q,ae,ag,aE,a6,dK,ga,_⟩:=AU (z:=z) av;rw[ga];exact⟨ag,dK⟩
def vJ{z:Int}{d:Nat}(av:0<d):(a4 z d).z*d=z*(a4 z d).d:=by
 obtain⟨g,e,q,ae,ag,aE,a6,dK,ga,_⟩:=AU (z:=z) av;rw[ga,aE,a6];show q*((g*e:Nat):Int)=(g:Int)*q*(e:Int);rw[iX];simp only[nb,oA,qm]
def a2.aad{r s:a2}(ae:r.z=s.z)(ag:r.d=s.d):r=s:=by
 cases r;cases s;simp at ae ag;subst ae;subst ag;rfl
def alv{r s:a2}(ar:r.g9)(hs:s.g9)(h:r.z*s.d=s.z*r.d):r=s:=by
 have aI:=dh Int.natAbs h;rw[kT,kT,gR,gR] at aI;have ae:r.d ∣ s.d:=aiA ar.2.symm ⟨s.z.natAbs,by rw[aI,hn]⟩;have ag:s.d ∣ r.d:=aiA hs.2.symm ⟨r.z.natAbs,by rw[<-aI,hn]⟩;have e:=Nat.dvd_antisymm ae ag;have av:=hs.1;refine a2.aad ?_ e;rw[e] at h;exact GO (by omega) h
def AV{r:a2}{z:Int}{d:Nat}(ar:r.g9)(av:0<d)(h:r.z*d=z*r.d):r=a4 z d:=by
 refine alv ar (k4 av) ?_;have ag:=vJ (z:=z) av;have vq:(d:Int)≠0:=by omega
 refine GO vq ?_
 calc r.z*(a4 z d).d*d=(r.z*d)*(a4 z d).d:=by simp only[nb,oA,qm]
  _=z*r.d*(a4 z d).d:=by rw[h]
  _=(z*(a4 z d).d)*r.d:=by simp only[nb,oA,qm]
  _=(a4 z d).z*d*r.d:=by rw[ag]
  _=(a4 z d).z*r.d*d:=by simp only[nb,oA,qm]
def AT{z w:Int}{d e:Nat}(av:0<d)(he:0<e):a4 z d=a4 w e↔z*e=w*d:=by
 have ae:=vJ (z:=z) av;have ag:=vJ (z:=w) he;have bb:=k4 (z:=z) av;constructor
 ·intro h;rw[<-h] at ag;have U:((a4 z d).d:Int)≠0:=by have:=bb.1;omega
  refine GO U ?_
  calc z*e*(a4 z d).d=(z*(a4 z d).d)*e:=by simp only[nb,oA,qm]
   _=(a4 z d).z*d*e:=by rw[ae]
   _=((a4 z d).z*e)*d:=by simp only[nb,oA,qm]
   _=w*(a4 z d).d*d:=by rw[ag]
   _=w*d*(a4 z d).d:=by simp only[nb,oA,qm]
 ·intro h;refine AV bb he ?_;have U:(d:Int)≠0:=by omega
  refine GO U ?_
  calc (a4 z d).z*e*d=((a4 z d).z*d)*e:=by simp only[nb,oA,qm]
   _=z*(a4 z d).d*e:=by rw[ae]
   _=(z*e)*(a4 z d).d:=by simp only[nb,oA,qm]
   _=w*d*(a4 z d).d:=by rw[h]
   _=w*(a4 z d).d*d:=by simp only[nb,oA,qm]
def Oy{r:a2}(h:r.g9):a4 r.z r.d=r:=(AV h h.1 I).symm
def xG{d:Nat}(av:0<d):a4 0 d=⟨0,1⟩:=(AV (r:=⟨0,1⟩) ⟨by decide,by decide⟩ av (by simp)).symm
def Oz{z:Int}{d:Nat}(av:0<d):(0<(a4 z d).z↔0<z)/\((a4 z d).z<0↔z<0)/\((a4 z d).z=0↔z=0):=by
 obtain⟨g,e,q,ae,ag,aE,a6,dK,ga,_⟩:=AU (z:=z) av;rw[ga,aE];have aB:(0:Int)<g:=by omega
 refine⟨⟨fun h=>Int.mul_pos aB h,fun h=>?_⟩,⟨fun h=>XF aB h,fun h=>?_⟩,⟨fun h=>?_,fun h=>?_⟩⟩
 ·rcases wg 0 q with k|k
  ·exact k
  ·have:=Int.mul_nonpos_of_nonneg_of_nonpos (PY aB) k;omega
 ·rcases wg q 0 with k|k
  ·exact k
  ·have:=DL (PY aB) k;omega
 ·show(g:Int)*q=0;have h:q=0:=h;rw[h,Int.mul_zero]
 ·show q=0;rcases XD.1 h with k|k
  ·omega
  ·exact k
def FZ{z:Int}{d:Nat}(av:0<d):(a4 z d).z.natAbs<=z.natAbs/\(a4 z d).d<=d:=by
 obtain⟨g,e,q,ae,ag,aE,a6,dK,ga,_⟩:=AU (z:=z) av;rw[ga];constructor
 ·rw[aE,kT,gR];exact X8 _ ae
 ·rw[a6];exact X8 _ ae
def ac8{eH eQ:Int}{u v:Nat}(ae:Nat.Coprime eH.natAbs u)(ag:Nat.Coprime v u):Nat.Coprime (eH*v+eQ*u).natAbs u:=by
 have mV:=tr (eH*v+eQ*u).natAbs u;have nq:=uR (eH*v+eQ*u).natAbs u;show Nat.gcd (eH*v+eQ*u).natAbs u=1;generalize Nat.gcd (eH*v+eQ*u).natAbs u=k at mV nq;have ba:(k:Int) ∣ eH*v+eQ*u:=PZ.2 mV;have br:(k:Int) ∣ eQ*u:=Int.dvd_trans (Int.natCast_dvd_natCast.2 nq) (Int.dvd_mul_left _ _);have bG:(k:Int) ∣ eH*v:=(Int.dvd_add_left br).1 ba;have cD:k ∣ eH.natAbs*v:=by
  have:=PZ.1 bG;rwa [kT,gR] at this
 have bb:Nat.Coprime k eH.natAbs:=(Qb nq ae).symm;have bt:Nat.Coprime k v:=(Qb nq ag).symm;exact Nat.Coprime.eq_one_of_dvd (bb.mul_right bt) cD
def atm{r s:a2}(ar:r.g9)(hs:s.g9){g u v h:Nat}{t q:Int}(aB:g=Nat.gcd r.d s.d)(hu:r.d=u*g)(az:s.d=v*g)(aM:t=r.z*v+s.z*u)(dB:h=Nat.gcd t.natAbs g)(b3:t=q*h){w:Nat}(hw:s.d=w*h):(⟨q,u*w⟩:a2)=a4 (r.z*s.d+s.z*r.d) (r.d*s.d):=by
 have rd:=ar.1;have iM:=hs.1;have Ax:0<g:=by rw[aB];exact aiF _ rd
 have Ay:0<h:=by rw[dB];exact wq _ Ax
 have acx:Nat.Coprime u v:=by
  have:=Lv (m:=r.d) (n:=s.d) (by rw[<-aB];exact Ax);rw[<-aB] at this;have aF:r.d / g=u:=by rw[hu];exact wv _ Ax
  have aV:s.d / g=v:=by rw[az];exact wv _ Ax
  rwa [aF,aV] at this
 obtain⟨m,hm⟩:h ∣ g:=by rw[dB];exact uR _ _
 have My:w=v*m:=by
  have:w*h=v*m*h:=by rw[<-hw,az,hm,hn h m,lY]
  exact Nat.eq_of_mul_eq_mul_right Ay this
 have agO:t.natAbs=q.natAbs*h:=by rw[b3,kT,gR]
 have ack:q.natAbs ∣ t.natAbs:=⟨h,agO⟩;have bb:Nat.Coprime t.natAbs u:=by
  rw[aM];exact ac8 (Qb ⟨g,hu⟩ ar.2) acx.symm
 have bt:Nat.Coprime t.natAbs v:=by
  rw[aM,Int.add_comm];exact ac8 (Qb ⟨g,az⟩ hs.2) acx
 have cE:Nat.Coprime q.natAbs m:=by
  have:=Lv (m:=t.natAbs) (n:=g) (by rw[<-dB];exact Ay);rw[<-dB] at this;have aF:t.natAbs / h=q.natAbs:=by rw[agO];exact wv _ Ay
  have aV:g / h=m:=by rw[hm];exact BA _ Ay
  rwa [aF,aV] at this
 have asf:0<u:=by
  rcases oC u with k|k
  ·rw[k] at hu;omega
  ·exact k
 have asw:0<w:=by
  rcases oC w with k|k
  ·rw[k] at hw;omega
  ·exact k
 refine AV ⟨ib asf asw,?_⟩ (ib rd iM) ?_
 ·show Nat.Coprime q.natAbs (u*w);rw[My];exact(aiz ack bb).mul_right ((aiz ack bt).mul_right cE)
 ·show q*((r.d*s.d:Nat):Int)=(r.z*s.d+s.z*r.d)*((u*w:Nat):Int);have aF:(r.z*s.d+s.z*r.d:Int)=t*g:=by
   rw[aM,hu,az,iX,iX,DJ];simp only[nb]
  rw[aF,b3,My];have aV:(s.d:Int)=v*(h*m):=by rw[az,hm];simp
  rw[iX,aV,hu,hm];simp only[iX,nb,oA,qm]
def atn{r s:a2}(ar:r.g9)(hs:s.g9){g h a c:Nat}{p q:Int}{b e:Nat}(aB:g=Nat.gcd r.z.natAbs s.d)(dB:h=Nat.gcd s.z.natAbs r.d)(aR:r.z≠0)(jj:s.z≠0)(ae:r.z=p*g)(ag:s.z=q*h)(aE:r.d=b*h)(a6:s.d=e*g):(⟨p*q,b*e⟩:a2)=a4 (r.z*s.z) (r.d*s.d):=by
 have rd:=ar.1;have iM:=hs.1;have Ax:0<g:=by rw[aB];exact wq _ iM
 have Ay:0<h:=by rw[dB];exact wq _ rd
 have bH:r.z.natAbs=p.natAbs*g:=by rw[ae,kT,gR]
 have c2:s.z.natAbs=q.natAbs*h:=by rw[ag,kT,gR]
 have bb:Nat.Coprime p.natAbs e:=by
  have:=Lv (m:=r.z.natAbs) (n:=s.d) (by rw[<-aB];exact Ax);rw[<-aB,bH,a6,wv _ Ax,wv _ Ax] at this;exact this
 have bt:Nat.Coprime q.natAbs b:=by
  have:=Lv (m:=s.z.natAbs) (n:=r.d) (by rw[<-dB];exact Ay);rw[<-dB,c2,aE,wv _ Ay,wv _ Ay] at this;exact this
 have cE:Nat.Coprime p.natAbs b:=(ar.2.coprime_dvd_left ⟨g,bH⟩).coprime_dvd_right ⟨h,aE⟩;have eA:Nat.Coprime q.natAbs e:=(hs.2.coprime_dvd_left ⟨h,c2⟩).coprime_dvd_right ⟨g,a6⟩;have ak:0<b:=by
  rcases oC b with k|k
  ·rw[k] at aE;omega
  ·exact k
 have he:0<e:=by
  rcases oC e with k|k
  ·rw[k] at a6;omega
  ·exact k
 refine AV ⟨ib ak he,?_⟩ (ib rd iM) ?_
 ·show Nat.Coprime (p*q).natAbs (b*e);rw[kT];exact(cE.mul_right bb).mul_left (bt.mul_right eA)
 ·show p*q*((r.d*s.d:Nat):Int)=r.z*s.z*((b*e:Nat):Int);rw[ae,ag,aE,a6];simp only[iX,nb,oA,qm]
def bf:List Nat->Nat
 |[]=>0
 |x::l=>x+1000000000*bf l
def hh(l:List Nat):Prop:=∀x∈l,x<1000000000
def kQ(l:List Nat):Prop:=hh l/\∀x,l.getLast?=some x->x≠0
def aq(n:Nat):List Nat:=if h:n=0 then[] else n % 1000000000::aq (n / 1000000000)
termination_by n
decreasing_by omega
def m1:aq 0=[]:=by unfold aq;rfl
def ue{n:Nat}(h:n≠0):aq n=n % 1000000000::aq (n / 1000000000):=by rw[aq];rw[dif_neg h]
def h0:∀n:Nat,bf (aq n)=n:=by
 intro n;induction n using Nat.strongRecOn with
 |_ n aC=>
  by_cases h:n=0
  ·subst h;rw[m1];rfl
  ·rw[ue h];show n % 1000000000+1000000000*bf (aq (n / 1000000000))=n;rw[aC _ (by omega)];omega
def k5:∀n:Nat,hh (aq n):=by
 intro n;induction n using Nat.strongRecOn with
 |_ n aC=>
  by_cases h:n=0
  ·subst h;rw[m1];intro x U;cases U
  ·rw[ue h];intro x U;rcases fs.1 U with rfl|U
   ·omega
   ·exact aC _ (by omega) x U
def N':∀(n:Nat) (x:Nat),(aq n).getLast?=some x->x≠0:=by
 intro n;induction n using Nat.strongRecOn with
 |_ n aC=>
  intro x U;by_cases h:n=0
  ·subst h;rw[m1] at U;cases U
  ·rw[ue h] at U;by_cases ag:n / 1000000000=0
   ·rw[ag,m1] at U;have U:n % 1000000000=x:=by simpa using U
    omega
   ·rw[ue ag,P8,<-ue ag] at U;exact aC _ (by omega) x U
def wO(n:Nat):kQ (aq n):=⟨k5 n,N' n⟩
def hh.tail{x:Nat}{l:List Nat}(h:hh (x::l)):hh l:=fun y an=>h y (.tail _ an)
def Ri{x:Nat}{l:List Nat}(h:kQ (x::l)):kQ l:=⟨h.1.tail,fun y an=>by
 cases l with
 |nil=>cases an
 |cons z l=>exact h.2 y (by rw[P8];exact an)⟩
def WU:∀{l:List Nat},kQ l->bf l=0->l=[]
 |[],_,_=>rfl
 |x::l,h,aQ=>by
  have aQ:x+1000000000*bf l=0:=aQ;have:=WU (Ri h) (by omega);subst this;exact absurd (show x=0 by omega) (h.2 x I)
def ty:∀{l:List Nat},kQ l->l=aq (bf l)
 |[],_=>by show[]=aq 0;rw[m1]
 |x::l,h=>by
  have U:=h.1 x (.head _);have aC:=ty (Ri h);have aA:bf (x::l)≠0:=fun q=>by have:=WU h q;cases this
  rw[ue aA];have aF:bf (x::l) % 1000000000=x:=by show(x+1000000000*bf l) % 1000000000=x;omega
  have aV:bf (x::l) / 1000000000=bf l:=by show(x+1000000000*bf l) / 1000000000=bf l;omega
  rw[aF,aV,<-aC]
def Ds:∀(a b:List Nat),bf (a++b)=bf a+1000000000 ^ a.length*bf b
 |[],b=>by show bf b=0+1*bf b;omega
 |x::a,b=>by
  show x+1000000000*bf (a++b)=x+1000000000*bf a+1000000000 ^ (a.length+1)*bf b;rw[Ds a b,hV,lz,lY,DW,D1]
def KQ(x:Nat):bf [x]=x:=by show x+1000000000*0=x;omega
def uB:∀{l:List Nat},hh l->bf l<1000000000 ^ l.length
 |[],_=>by decide
 |x::l,h=>by
  have aC:=uB h.tail;have U:=h x (.head _);show x+1000000000*bf l<1000000000 ^ (l.length+1);rw[lz];omega
def WT{l:List Nat}(h:kQ l)(aA:l≠[]):1000000000 ^ (l.length -1)<=bf l:=by
 have e:=ail aA;have aQ:l.getLast aA≠0:=h.2 _ (aip aA);rw[<-e,Ds,KQ,dv,x8,zX];have:1000000000 ^ l.dropLast.length*1<=1000000000 ^ l.dropLast.length*l.getLast aA:=DZ _ (by omega);omega
def KR{l:List Nat}{i x:Nat}(h:l[i]?=some x):bf (l.take (i+1))=bf (l.take i)+1000000000 ^ i*x:=by
 have hi:=(dO.1 h).1;rw[ly,h,Yg,Ds,KQ,eL,gv (by omega)]
def Gs{l:List Nat}{i x:Nat}(h:l[i]?=some x):bf (l.drop i)=x+1000000000*bf (l.drop (i+1)):=by
 have hi:=(dO.1 h).1;have U:l[i]=x:=by rw[cU hi] at h;injection h
 rw[tn hi,U];rfl
def Gu(l:List Nat)(i:Nat)(hi:i<=l.length):bf l=bf (l.take i)+1000000000 ^ i*bf (l.drop i):=by
 have:=Ds (l.take i) (l.drop i);rwa [Lu,eL,gv hi] at this
def ahc{l:List Nat}{i x y:Nat}(h:l[i]?=some x):bf (l.set i y)+1000000000 ^ i*x=bf l+1000000000 ^ i*y:=by
 have hi:=(dO.1 h).1;have aF:=Gu l i (by omega);have aV:=Gu (l.set i y) i (by rw[hy];omega);rw[Qa (b2 i),Gs (i:=i) (x:=y) (by rw[qp,aP I,aP hi]),P4 (by omega)] at aV;rw[Gs h] at aF;rw[aF,aV,hV,hV];omega
def OF{l:List Nat}{i y:Nat}(h:hh l)(an:y<1000000000):hh (l.set i y):=fun x U=>by
 rcases Lp U with q|q
 ·exact h x q
 ·omega
def VD{a b:List Nat}(ae:hh a)(ag:hh b):hh (a++b):=fun x U=>by
 rcases mm.1 U with q|q
 ·exact ae x q
 ·exact ag x q
def VF{l:List Nat}{i:Nat}(h:hh l):hh (l.take i):=fun x U=>h x (DU U)
def VE{l:List Nat}{i:Nat}(h:hh l):hh (l.drop i):=fun x U=>h x (air U)
def uq{l:List Nat}{i x:Nat}(h:hh l)(U:l[i]?=some x):x<1000000000:=h x (dq U)
def aey{n:Nat}:hh (List.replicate n 0):=fun x U=>by rw[DS U];decide
def ahf:∀n:Nat,bf (List.replicate n 0)=0
 |0=>rfl
 |n+1=>by rw[Lt];show 0+1000000000*bf (List.replicate n 0)=0;rw[ahf n]
def ahd{a b:List Nat}(aI:hh a)(ak:kQ b)(h:a.length<b.length):bf a<bf b:=by
 have ae:=uB aI;have ag:=WT ak (fun q=>by rw[q] at h;exact D2 _ h);have aE:1000000000 ^ a.length<=1000000000 ^ (b.length -1):=nd (by decide) (by omega);omega
def aAv{a b:List Nat}{i x y:Nat}(aI:hh a)(U:a[i]?=some x)(an:b[i]?=some y)(av:a.drop (i+1)=b.drop (i+1))(h:x<y):bf a<bf b:=by
 have asM:=(dO.1 U).1;have asN:=(dO.1 an).1;have aF:=Gu a (i+1) (by omega);have aV:=Gu b (i+1) (by omega);rw[KR U,av] at aF;rw[KR an] at aV;have ae:=uB (VF (i:=i) aI);rw[eL,gv (by omega)] at ae;have ag:1000000000 ^ i*(x+1)<=1000000000 ^ i*y:=DZ _ h;rw[hV,jr] at ag;generalize 1000000000 ^ (i+1)*bf (b.drop (i+1))=R at aF aV;generalize 1000000000 ^ i*x=X at aF ag;generalize 1000000000 ^ i*y=Y at aV ag;omega
end
end Go.Opn
namespace Go.Cre
noncomputable section
open Go.RowKit
open Classical
structure da (P:Program) where
 ok:(Nat->Prop)->World->Prop
 up:∀B w0 jf jA,ok B w0->(∀k,B k->jf k)->Kept B w0 jA->ok jf jA
def lE (c:Code)(S:aY)(H:aw)(r:Exit×aY×aw):Code->aY->aw->Option (Exit×aY×aw):=fun c' aL H'=>if c'=c/\aL=S/\H'=H then some r else none
def lD (f:FuncId)(args:List Value)(H:aw)(r:Ending×aw):eW:=fun ck bV H'=>if ck=f/\bV=args/\H'=H then some r else none
def dR{P:Program}(Q:da P)(c:Code)(S:aY)(H:aw)(e:Exit)(aL:aY)(H':aw):Prop:=∀B w0,Q.ok B w0->tk P B w0 (lE c S H (e,aL,H'))
def j5{P:Program}(Q:da P)(f:FuncId)(args:List Value)(H:aw)(e:Ending)(H':aw):Prop:=∀B w0,Q.ok B w0->qk P B w0 (lD f args H (e,H'))
def su {P:Program}(Q:da P)(pick:Code->aY->aw->Option (Exit×aY×aw)):Code->aY->aw->Option (Exit×aY×aw):=fun c S H=>match pick c S H with
 |some (e,aL,H')=>if dR Q c S H e aL H' then some (e,aL,H') else none
 |none=>none
def hY {P:Program}(Q:da P)(pick:eW):eW:=fun f args H=>match pick f args H with
 |some (e,H')=>if j5 Q f args H e H' then some (e,H') else none
 |none=>none
section
variable {P:Program}{Q:da P}{B:Nat->Prop}{w0:World}
def Ep(pick:Code->aY->aw->Option (Exit×aY×aw))(hf:Q.ok B w0):tk P B w0 (su Q pick):=by
 intro c S H e aL H' he;unfold su at he;split at he
 ·split at he
  ·rename_i dU;simp only[cb,c8] at he;obtain⟨rfl,rfl,rfl⟩:=he;exact dU B w0 hf c S H _ _ _ (by unfold lE;rw[aP ⟨I,I,I⟩])
  ·cases he
 ·cases he
def Q8(pick:eW)(hf:Q.ok B w0):qk P B w0 (hY Q pick):=by
 intro f args H e H' he;unfold hY at he;split at he
 ·split at he
  ·rename_i dU;simp only[cb,c8] at he;obtain⟨rfl,rfl⟩:=he;exact dU B w0 hf f args H _ _ (by unfold lD;rw[aP ⟨I,I,I⟩])
  ·cases he
 ·cases he
def fW {P:Program}(Q:da P)(gg:Code->aY->aw->Option (Exit×aY×aw))(cg:eW):gu:=
 ⟨su Q gg,fun f args bQ bg H=>if bQ=true then none else match hY Q cg f args H with|some (e,H')=>some (e,bg,H')|none=>none⟩
def K'(gg:Code->aY->aw->Option (Exit×aY×aw))(cg:eW):(fW Q gg cg).call=hY Q cg:=by
 funext f args H
 unfold gu.call fW;simp only[zN,y8];cases hY Q cg f args H with
 |none=>rfl
 |some p=>rfl
def dR.xH(p0:P.follows .mixedOrders=true){c:Code}{S aL:aY}{H H':aw}{e:Exit}(gg:Code->aY->aw->Option (Exit×aY×aw))(cg:eW)(h:Mu P (fW Q gg cg) c S H=some (e,aL,H')):dR Q c S H e aL H':=by
 intro B w0 hf;have gn:∀(jf:Nat->Prop) (jA:World),(∀k,B k->jf k)->Kept B w0 jA->Q.ok jf jA:=fun jf jA a b=>Q.up B w0 jf jA hf a b;have ax:∀(jf:Nat->Prop) (jA:World),Q.ok jf jA->tk P jf jA (fW Q gg cg).code:=fun jf jA q=>Ep gg q;have hk:∀(jf:Nat->Prop) (jA:World),Q.ok jf jA->qk P jf jA (fW Q gg cg).call:=fun jf jA q=>by rw[K'];exact Q8 cg q
 have hs:=Z8 (P:=P) (B:=B) (w0:=w0) (E:=fW Q gg cg) p0 (ax B w0 hf) (fun jf jA a b=>hk jf jA (gn jf jA a b)) (fun jf jA a b=>PQ (ax jf jA (gn jf jA a b))) (afl (hk B w0 hf));intro bb a3 H1 aF Qm La he;unfold lE at he;split at he
 ·rename_i q;obtain⟨rfl,rfl,rfl⟩:=q;simp only[cb,c8] at he;obtain⟨rfl,rfl,rfl⟩:=he;exact hs _ _ _ _ _ _ h
 ·cases he
def Rk{c:Code}{S aL:aY}{H H':aw}{e:Exit}(h:dR Q c S H e aL H'){gg:Code->aY->aw->Option (Exit×aY×aw)}(ap:gg c S H=some (e,aL,H')):su Q gg c S H=some (e,aL,H'):=by
 unfold su;rw[ap];simp only;rw[aP h]
def Ac{f:FuncId}{args:List Value}{H H':aw}{e:Ending}(h:j5 Q f args H e H'){cg:eW}(ap:cg f args H=some (e,H')):hY Q cg f args H=some (e,H'):=by
 unfold hY;rw[ap];simp only;rw[aP h]
def g7:Code->aY->aw->Option (Exit×aY×aw):=fun _ _ _=>none
def lP:eW:=fun _ _ _=>none
def VV (bb:Code)(a3:aY)(H1:aw)(dc:Exit×aY×aw)(bt:Code)(hb:aY)(bT:aw)(c9:Exit×aY×aw):Code->aY->aw->Option (Exit×aY×aw):=fun c S H=>
 if c=bb/\S=a3/\H=H1 then some dc else if c=bt/\S=hb/\H=bT then some c9 else none
def dR.skip(p0:P.follows .mixedOrders=true){S:aY}{H:aw}:dR Q .skip S H .normal S H:=dR.xH p0 g7 lP I
def dR.ret(p0:P.follows .mixedOrders=true){S:aY}{H:aw}:dR Q .ret S H .ret S H:=dR.xH p0 g7 lP I
def dR.exit(p0:P.follows .mixedOrders=true){S:aY}{H:aw}{id:Nat}:dR Q (.exit id) S H (.exit id) S H:=dR.xH p0 g7 lP I
def dR.mk{c:Code}{S aL:aY}{H H':aw}{e:Exit}(h:∀B w0,Q.ok B w0->∀μ w fr tmps ds cs k it,bZ P B w0 μ H w->iW P μ S fr tmps ds cs->z3 c it->m9 P B w0 μ H S fr cs (lone (bR fr tmps ds (it::k)) cs w) k aL H' e):dR Q c S H e aL H':=by
 intro B w0 hf bb a3 H1 aF Qm La he;unfold lE at he;split at he
 ·rename_i q;obtain⟨rfl,rfl,rfl⟩:=q;simp only[cb,c8] at he;obtain⟨rfl,rfl,rfl⟩:=he;exact h B w0 hf
 ·cases he
def dR.use{c:Code}{S aL:aY}{H H':aw}{e:Exit}(h:dR Q c S H e aL H')(hf:Q.ok B w0){μ:bU}{w:World}{fr:Frame}{tmps:Array Value}{ds:List Deferred}{cs:List Frame}{k:List Item}{it:Item}(ka:bZ P B w0 μ H w)(bC:iW P μ S fr tmps ds cs)(hs:z3 c it):
 m9 P B w0 μ H S fr cs (lone (bR fr tmps ds (it::k)) cs w) k aL H' e:=h B w0 hf c S H e aL H' (by unfold lE;rw[aP ⟨I,I,I⟩]) μ w fr tmps ds cs k it ka bC hs
def z3.plain{c:Code}{it:Item}(h:z3 c it)(aA:∀c',c≠.loop c'):it=.code c:=by
 rcases h with q|⟨c',q,_⟩
 ·exact q
 ·exact absurd q (aA c')
def dR.seq{a b:Code}{S a3 hb:aY}{H H1 bT:aw}{e:Exit}(ae:dR Q a S H .normal a3 H1)(ag:dR Q b a3 H1 e hb bT):dR Q (.seq a b) S H e hb bT:=by
 refine .mk fun B w0 hf μ w fr tmps ds cs k it ka bC hs=>?_;obtain rfl:=hs.plain (fun _ q=>by cases q);exact((ae.use (k:=.code b::k) hf ka bC (.inl I)).bind fun fO bE t1 d1 g4 mY=>ag.use hf mY.h mY.f (.inl I)).steps (.one Wy)
def dR.Ky{a b:Code}{S a3:aY}{H H1:aw}{e:Exit}(ae:dR Q a S H e a3 H1)(aA:e≠.normal):dR Q (.seq a b) S H e a3 H1:=by
 refine .mk fun B w0 hf μ w fr tmps ds cs k it ka bC hs=>?_;obtain rfl:=hs.plain (fun _ q=>by cases q);exact((ae.use (k:=.code b::k) hf ka bC (.inl I)).steps (.one Wy)).pass (fun id _=>rfl) aA
def z3.loop{c:Code}{it:Item}(h:z3 (.loop c) it){fr:Frame}{tmps:Array Value}{ds:List Deferred}{cs:List Frame}{k:List Item}{w:World}:step P (lone (bR fr tmps ds (it::k)) cs w)=.next (lone (bR fr tmps ds (.code c::.inLoop c::k)) cs w):=by
 rcases h with rfl|⟨c',q,rfl⟩
 ·exact agn
 ·injection q with q;subst q;exact agm
def dR.adp{c:Code}{S a3 hb:aY}{H H1 bT:aw}{e:Exit}(ae:dR Q c S H .normal a3 H1)(ag:dR Q (.loop c) a3 H1 e hb bT):dR Q (.loop c) S H e hb bT:=by
 refine .mk fun B w0 hf μ w fr tmps ds cs k it ka bC hs=>?_;exact((ae.use (k:=.inLoop c::k) hf ka bC (.inl I)).bind fun fO bE t1 d1 g4 mY=>ag.use hf mY.h mY.f (.inr ⟨c,I,I⟩)).steps (.one hs.loop)
def dR.xu{c:Code}{S a3:aY}{H H1:aw}{e:Exit}(ae:dR Q c S H e a3 H1)(aA:e≠.normal):dR Q (.loop c) S H e a3 H1:=by
 refine .mk fun B w0 hf μ w fr tmps ds cs k it ka bC hs=>?_;exact((ae.use (k:=.inLoop c::k) hf ka bC (.inl I)).steps (.one hs.loop)).pass (fun id _=>rfl) aA
def Eo{c:Code}{S aL:aY}{H H':aw}{e:Exit}(h:dR Q c S H e aL H'):su Q (lE c S H (e,aL,H')) c S H=some (e,aL,H'):=Rk h (by unfold lE;rw[aP ⟨I,I,I⟩])
def dR.cond(p0:P.follows .mixedOrders=true){x:Operand}{a b:Code}{t:Bool}{S aL:aY}{H H':aw}{e:Exit}(U:a5 S.T H x=some (.bool t))(h:dR Q (if t=true then a else b) S H e aL H'):dR Q (.cond x a b) S H e aL H':=by
 cases t with
 |true=>
  refine dR.xH p0 (lE a S H (e,aL,H')) lP ?_;show Me _ S H a b (a5 S.T H x)=_;rw[U];exact Eo h
 |false=>
  refine dR.xH p0 (lE b S H (e,aL,H')) lP ?_;show Me _ S H a b (a5 S.T H x)=_;rw[U];exact Eo h
def dR.block(p0:P.follows .mixedOrders=true){id:Nat}{c:Code}{S aL:aY}{H H':aw}{e:Exit}(h:dR Q c S H e aL H'):dR Q (.block id c) S H (match e with|.exit j=>if j=id then .normal else .exit j|e=>e) aL H':=by
 refine dR.xH p0 (lE c S H (e,aL,H')) lP ?_;show Q5 id (su Q (lE c S H (e,aL,H')) c S H)=_;rw[Eo h];cases e with
 |exit j=>
  show(bif Nat.beq j id then some (Exit.normal,aL,H') else some (Exit.exit j,aL,H'))=_;by_cases aW:j=id
  ·subst aW;simp
  ·have:Nat.beq j id=false:=by
    cases q:Nat.beq j id
    ·rfl
    ·exact absurd (eM q) aW
   rw[this,dQ];simp[aW]
 |_=>rfl
def ah9(gg:Code->aY->aw->Option (Exit×aY×aw))(cg:eW):wb P B w0 (fW Q gg cg).body:=by
 intro f args bg H e hl H' he;unfold fW at he;simp at he
def j5.b9{fR:aZ Func}(cZ:uS P fR){f:FuncId}{args:List Value}{H H':aw}{e:Ending}{bg:FrameMode}(gg:Code->aY->aw->Option (Exit×aY×aw))(cg:eW)(h:tA P fR (fW Q gg cg) f args false .run H=some (e,bg,H')):j5 Q f args H e H':=by
 intro B w0 hf f1 wJ H1 aF La he;unfold lD at he;split at he
 ·rename_i q;obtain⟨rfl,rfl,rfl⟩:=q;simp only[cb,c8] at he;obtain⟨rfl,rfl⟩:=he;exact RO (E:=fW Q gg cg) cZ (Ep gg hf) (ah9 gg cg) f1 wJ H1 _ _ (by unfold gu.call;simp only;rw[h])
 ·cases he
def j5.run{fR:aZ Func}(cZ:uS P fR){f:FuncId}{fn:Func}{c:Code}{args:List Value}{T:aZ Value}{H H1 H':aw}{a3:aY}{x:Exit}{e:Ending}{bg:FrameMode}(ay:fR.get f=some fn)(ak:fn.body=some c)(aI:pg args 0 (blank fn.ntmps)=some T)
 (ax:dR Q c ⟨T,fn.ntmps,[],false,.run,none⟩ H x a3 H1)(he:yk P (fW Q (lE c ⟨T,fn.ntmps,[],false,.run,none⟩ H (x,a3,H1)) lP) fn (some (x,a3,H1))=some (e,bg,H')):j5 Q f args H e H':=by
 refine j5.b9 cZ (lE c ⟨T,fn.ntmps,[],false,.run,none⟩ H (x,a3,H1)) lP (bg:=bg) ?_;unfold tA;rw[ay];show Hu P _ f fn args false .run H fn.body=_;rw[ak];show Hv P _ fn c false .run H (pg args 0 (blank fn.ntmps))=_;rw[aI];show yk P _ fn (su Q _ c ⟨T,fn.ntmps,[],false,.run,none⟩ H)=_;rw[Eo ax];exact he
end
def aZ.has{α:Type}(T:aZ α)(n:Nat):Prop:=∀t,t<n->∃v,T.get t=some v
end
end Go.Cre
namespace Go.Opn
noncomputable section
open Go.Cre
open Go.RowKit
def aZ.Gb{α:Type}(a:α):∀(T:aZ α) (n:Nat),(∀m,m<n->∃v,T.get m=some v)->∃ea,aZ.put a T n=some ea:=by
 intro T;induction T with
 |leaf=>
  intro n h;cases n with
  |zero=>exact⟨_,I⟩
  |succ n=>obtain⟨v,az⟩:=h 0 (by omega);cases az
 |node v l r y' za=>
  intro n h;cases n with
  |zero=>exact⟨_,I⟩
  |succ n=>
   rw[aZ.OW];by_cases aA:n % 2=0
   ·rw[aP aA];obtain⟨a9,aj⟩:=y' (n / 2) fun m hm=>by
     obtain⟨v',az⟩:=h (2*m+1) (by omega);rw[aZ.sB,aP (by omega),show 2*m / 2=m by omega] at az;exact⟨v',az⟩
    rw[aj];exact⟨_,I⟩
   ·rw[aG aA];obtain⟨cu,ar⟩:=za (n / 2) fun m hm=>by
     obtain⟨v',az⟩:=h (2*m+1+1) (by omega);rw[aZ.sB,aG (by omega),show(2*m+1) / 2=m by omega] at az;exact⟨v',az⟩
    rw[ar];exact⟨_,I⟩
structure j9 (H:aw):Prop where
 here:∀a,a<H.ao->∃b,H.mem.get a=some b
 gone:∀a,H.ao<=a->H.mem.get a=none
 EI:∀f,f<H.cC->∃l,H.bF.get f=some l
 Ih:∀f,H.cC<=f->H.bF.get f=none
 lH:H.bJ<=H.ao
def j9.lt{H:aw}(h:j9 H){a:Nat}{b:fP}(g:H.mem.get a=some b):a<H.ao:=by
 rcases ha a H.ao with q|q
 ·exact q
 ·rw[h.gone a q] at g;cases g
def j9.Ik{H:aw}(h:j9 H){f:Nat}{l:List Nat}(g:H.bF.get f=some l):f<H.cC:=by
 rcases ha f H.cC with q|q
 ·exact q
 ·rw[h.Ih f q] at g;cases g
def j9.new{H:aw}(h:j9 H)(b:fP):∃H1,H.new b=some (H.ao,H1):=by
 obtain⟨mem,ao,bF,cC,bJ⟩:=H;obtain⟨T,cq⟩:=aZ.Gb b mem ao h.here;refine⟨⟨T,ao+1,bF,cC,bJ⟩,?_⟩;show aw.Vo ao bF cC bJ (aZ.put b mem ao)=_;rw[cq];rfl
def j9.Vr{H H1:aw}{b:fP}{id:Nat}(h:j9 H)(e:H.new b=some (id,H1)):j9 H1:=by
 obtain⟨_,aV,cj,eT,cR,kX⟩:=aw.p4 e;refine⟨fun a aI=>?_,fun a aI=>?_,by rw[cj,eT];exact h.EI,by rw[cj,eT];exact h.Ih,by have:=h.lH;omega⟩
 ·rw[kX];split
  ·exact⟨_,I⟩
  ·exact h.here a (by omega)
 ·rw[kX,aG (by omega)];exact h.gone a (by omega)
def j9.upd{H:aw}(h:j9 H){a:Nat}(b:fP)(aI:a<H.ao):∃H1,H.upd a b=some H1:=by
 obtain⟨mem,ao,bF,cC,bJ⟩:=H;obtain⟨x,U⟩:=h.here a aI;obtain⟨T,cq⟩:=aZ.Ks (a:=b) U;refine⟨⟨T,ao,bF,cC,bJ⟩,?_⟩;show aw.agZ ao bF cC bJ (aZ.put b mem a)=_;rw[cq];rfl
def j9.Pz{H H1:aw}{b:fP}{a:Nat}(h:j9 H)(aI:a<H.ao)(e:H.upd a b=some H1):j9 H1:=by
 obtain⟨aF,aV,cj,eT,cR⟩:=aw.r7 e;refine⟨fun x U=>?_,fun x U=>?_,by rw[aV,cj];exact h.EI,by rw[aV,cj];exact h.Ih,by have:=h.lH;omega⟩
 ·rw[cR];split
  ·exact⟨_,I⟩
  ·exact h.here x (by omega)
 ·rw[cR,aG (by omega)];exact h.gone x (by omega)
def j9.xC{H:aw}(h:j9 H):∃H1,H.xC=some (H.cC,H1):=by
 obtain⟨mem,ao,bF,cC,bJ⟩:=H;obtain⟨T,cq⟩:=aZ.Gb [ao] bF cC h.EI;refine⟨⟨mem,ao,T,cC+1,bJ⟩,?_⟩;show aw.Vp mem ao cC bJ (aZ.put [ao] bF cC)=_;rw[cq];rfl
def j9.auS{H H1:aw}{f:Nat}(h:j9 H)(e:H.xC=some (f,H1)):j9 H1:=by
 obtain⟨aF,aV,cj,eT,cR,kX⟩:=aw.Ot e;refine⟨by rw[aV,cj];exact h.here,by rw[aV,cj];exact h.gone,fun x U=>?_,fun x U=>?_,by have:=h.lH;omega⟩
 ·rw[kX];split
  ·exact⟨_,I⟩
  ·exact h.EI x (by omega)
 ·rw[kX,aG (by omega)];exact h.Ih x (by omega)
def j9.td{H:aw}(h:j9 H){f:Nat}(l:List Nat)(ay:f<H.cC):∃H1,H.td f l=some H1:=by
 obtain⟨mem,ao,bF,cC,bJ⟩:=H;obtain⟨x,U⟩:=h.EI f ay;obtain⟨T,cq⟩:=aZ.Ks (a:=l) U;refine⟨⟨mem,ao,T,cC,bJ⟩,?_⟩;show aw.af2 mem ao cC bJ (aZ.put l bF f)=_;rw[cq];rfl
def j9.Wl{H H1:aw}{f:Nat}{l:List Nat}(h:j9 H)(ay:f<H.cC)(e:H.td f l=some H1):j9 H1:=by
 obtain⟨aF,aV,cj,eT,cR⟩:=aw.Gj e;refine⟨by rw[aF,aV];exact h.here,by rw[aF,aV];exact h.gone,fun x U=>?_,fun x U=>?_,by have:=h.lH;omega⟩
 ·rw[cR];split
  ·exact⟨_,I⟩
  ·exact h.EI x (by omega)
 ·rw[cR,aG (by omega)];exact h.Ih x (by omega)
structure er where
 ds:List Deferred
 cx:Option Nat
 bQ:Bool
 bg:FrameMode
def Ag:er:=⟨[],none,false,.run⟩
structure bY where
 n:Nat
 ds:er
 l:List (Nat×Value)
def look:List (Nat×Value)->Nat->Option Value
 |[],_=>none
 |(u,v)::l,t=>bif Nat.beq t u then some v else look l t
structure Sat (E:bY) (S:aY):Prop where
 n:S.n=E.n
 ds:S.ds=E.ds.ds
 bQ:S.bQ=E.ds.bQ
 bg:S.bg=E.ds.bg
 cx:S.cx=E.ds.cx
 has:S.T.has E.n
 get:∀t v,look E.l t=some v->S.T.get t=some v
def bY.put (E:bY):Option Tmp->Value->bY
 |none,_=>E
 |some d,v=>⟨E.n,E.ds,(d,v)::E.l⟩
def ZL (n:Nat):Option Tmp->Bool
 |none=>true
 |some d=>Nat.blt d n
def Sat.put{E:bY}{S:aY}(h:Sat E S){dst:Option Tmp}(av:ZL E.n dst=true)(v:Value):∃a3,S.put dst v=some a3/\Sat (E.put dst v) a3:=by
 cases dst with
 |none=>exact⟨S,I,h⟩
 |some d=>
  obtain⟨T,n,ds,bQ,bg,cx⟩:=S;have aA:n=E.n:=h.n;have cI:d<E.n:=by simpa[ZL] using av
  obtain⟨x,U⟩:=h.has d cI;obtain⟨ea,cq⟩:=aZ.Ks (a:=v) U;refine⟨⟨ea,n,ds,bQ,bg,cx⟩,?_,h.n,h.ds,h.bQ,h.bg,h.cx,fun t aM=>?_,fun t u hu=>?_⟩
  ·show Bool.rec (motive:=fun _=>Option aY) none (aY.r3 n ds bQ bg cx (aZ.put v T d)) (Nat.ble (Nat.succ d) n)=_;have ak:Nat.ble (Nat.succ d) n=true:=nc (by rw[aA];exact cI);rw[ak,cq];rfl
  ·show ∃v,ea.get t=some v;rw[aZ.get_put cq];split
   ·exact⟨_,I⟩
   ·exact h.has t aM
  ·show ea.get t=some u;rw[aZ.get_put cq];have hu:(bif Nat.beq t d then some v else look E.l t)=some u:=hu;by_cases e:t=d
   ·subst e;rw[aP I];simpa using hu
   ·rw[aG e];have ak:Nat.beq t d=false:=by
     cases q:Nat.beq t d
     ·rfl
     ·exact absurd (eM q) e
    rw[ak,dQ] at hu;exact h.get t u hu
def Sat.PI{E:bY}{S:aY}(h:Sat E S){l:List (Nat×Value)}(aj:∀t v,look l t=some v->look E.l t=some v):Sat ⟨E.n,E.ds,l⟩ S:=
 ⟨h.n,h.ds,h.bQ,h.bg,h.cx,h.has,fun t v q=>h.get t v (aj t v q)⟩
abbrev ai:=Nat->Option (List Value×TypeId)
def ai.le(J ah:ai):Prop:=∀a x,J a=some x->ah a=some x
def ai.le.refl(J:ai):J.le J:=fun _ _ h=>h
def ai.le.trans{J bj c3:ai}(h:J.le bj)(k:bj.le c3):J.le c3:=fun a x q=>k a x (h a x q)
inductive df where
 |row (cells:List Value) (e:TypeId)
 |opn (cells:List Value) (e:TypeId) (rest:List Nat) (z:Nat)
 |map (es:List MapEntry) (clock:Nat)
 |loop (r:qj)
 |g6
def df.at(F:Nat->Prop)(H:aw)(a:Nat):df->Prop
 |.row cells e=>H.mem.get a=some (.row cells e false 0 0 false)
 |.opn cells e rest z=>∃f,F f/\H.mem.get a=some (.row cells e true f z false)/\H.bF.get f=some (a::rest)
 |.map es clock=>H.mem.get a=some (.map es clock)
 |.loop r=>H.mem.get a=some (.loop r)
 |.g6=>H.mem.get a=some (.g6 (some []))
def df.rest:df->List Nat
 |.opn _ _ r _=>r
 |_=>[]
def ids:List (Nat×df)->List Nat
 |[]=>[]
 |(a,b)::m=>a::(b.rest++ids m)
def NP:∀(m m':List (Nat×df)),ids (m++m')=ids m++ids m':=by
 intro m m';induction m with
 |nil=>rfl
 |cons x m aC=>show x.1::(x.2.rest++ids (m++m'))=_;rw[aC];simp[ids]
def CF{a:Nat}:∀{m:List (Nat×df)},a∈ids m↔∃x∈m,a=x.1\/a∈x.2.rest:=by
 intro m;induction m with
 |nil=>simp[ids]
 |cons x m aC=>
  show a∈x.1::(x.2.rest++ids m)↔_;rw[fs,mm,aC];constructor
  ·rintro(h|h|⟨y,ae,ag⟩)
   ·exact⟨x,.head _,.inl h⟩
   ·exact⟨x,.head _,.inr h⟩
   ·exact⟨y,.tail _ ae,ag⟩
  ·rintro⟨y,ae,ag⟩;rcases fs.1 ae with q|q
   ·subst q;rcases ag with ag|ag
    ·exact .inl ag
    ·exact .inr (.inl ag)
   ·exact .inr (.inr ⟨y,q,ag⟩)
def AJ{a:Nat}{b:df}{m:List (Nat×df)}(h:(a,b)∈m):a∈ids m:=CF.2 ⟨_,h,.inl I⟩
def asP{m m':List (Nat×df)}(h:m'.Sublist m):(ids m').Sublist (ids m):=by
 induction h with
 |slnil=>exact iC _
 |cons x _ aC=>exact .cons _ (aC.trans (DV _ _))
 |cons_cons x _ aC=>exact .cons_cons _ ((iC _).append aC)
def NQ{m m':List (Nat×df)}(h:m.Perm m'):(ids m).Perm (ids m'):=by
 induction h with
 |nil=>exact .nil
 |cons x _ aC=>exact .cons _ (aC.append_left _)
 |swap x y l=>
  show(y.1::(y.2.rest++(x.1::(x.2.rest++ids l)))).Perm (x.1::(x.2.rest++(y.1::(y.2.rest++ids l))));have h:=ia (l₁:=y.1::y.2.rest) (l₂:=x.1::x.2.rest);have:=h.append_right (ids l);simpa using this
 |trans _ _ i1 i2=>exact i1.trans i2
def asO{m:List (Nat×df)}(h:(ids m).Nodup):(m.map Prod.fst).Nodup:=by
 refine List.Sublist.nodup ?_ h;clear h
 induction m with
 |nil=>exact iC _
 |cons x m aC=>exact .cons_cons _ (aC.trans (DV _ _))
structure dN where
 X:Nat->Prop
 Y:Nat->Prop
 H0:aw
 wi:ai
def dN.Al(B:dN)(f:Nat):Prop:=B.H0.cC<=f\/∃a r c e z s,B.H0.bF.get f=some (a::r)/\B.H0.mem.get a=some (.row c e true f z s)/\B.Y a
def dN.anF{B:dN}{f:Nat}(h:¬B.Al f):f<B.H0.cC:=Qe fun q=>h (.inl q)
structure Inv (g0:Nat) (B:dN) (J:ai) (m:List (Nat×df)) (H:aw):Prop where
 wf:j9 H
 bJ:H.bJ=g0
 ao:B.H0.ao<=H.ao
 cC:B.H0.cC<=H.cC
 fU:∀a,a<B.H0.ao->¬B.X a->H.mem.get a=B.H0.mem.get a
 oe:∀f,¬B.Al f->H.bF.get f=B.H0.bF.get f
 eG:∀a c e,J a=some (c,e)->∃o f z s,H.mem.get a=some (.row c e o f z s)
 le:B.wi.le J
 fresh:∀a x,B.wi a=none->J a=some x->B.H0.ao<=a\/B.X a
 own:∀a b,(a,b)∈m->b.at B.Al H a/\(B.H0.ao<=a\/B.X a)/\J a=none/\g0<=a
 opn:∀a b,(a,b)∈m->∀x∈b.rest,x<H.ao/\(B.H0.ao<=x\/B.X x)/\J x=none
 gZ:(ids m).Nodup
def df.YG{F:Nat->Prop}{H:aw}(w:j9 H){a:Nat}{b:df}(h:b.at F H a):a<H.ao:=by
 cases b with
 |row c e=>exact w.lt h
 |opn c e r z=>obtain⟨f,_,h,_⟩:=h;exact w.lt h
 |map es k=>exact w.lt h
 |loop r=>exact w.lt h
 |g6=>exact w.lt h
def df.yg{F:Nat->Prop}{H H1:aw}{a:Nat}{b:df}(h:b.at F H a)(hm:H1.mem.get a=H.mem.get a)(ay:∀f r,H.bF.get f=some (a::r)->H1.bF.get f=some (a::r)):b.at F H1 a:=by
 cases b with
 |row c e=>exact hm.trans h
 |opn c e r z=>obtain⟨f,aQ,ae,ag⟩:=h;exact⟨f,aQ,hm.trans ae,ay _ _ ag⟩
 |map es k=>exact hm.trans h
 |loop r=>exact hm.trans h
 |g6=>exact hm.trans h
section
variable {g0:Nat}{B:dN}{H:aw}{J:ai}{m m':List (Nat×df)}
def Inv.lt(h:Inv g0 B J m H){a:Nat}{b:df}(hm:(a,b)∈m):a<H.ao:=df.YG h.wf (h.own a b hm).1
def Inv.at6(h:Inv g0 B J m H){a:Nat}{x:List Value×TypeId}(aW:J a=some x):a<H.ao:=by
 obtain⟨c,e⟩:=x;obtain⟨o,f,z,s,q⟩:=h.eG a c e aW;exact h.wf.lt q
def Inv.Vu(h:Inv g0 B J m H):J H.ao=none:=by
 cases q:J H.ao with
 |none=>rfl
 |some x=>exact absurd (h.at6 q) (DY _)
def Inv.Oe(h:Inv g0 B J m H){x:Nat}(U:x∈ids m):x<H.ao:=by
 obtain⟨⟨a,b⟩,ae,ag⟩:=CF.1 U;rcases ag with ag|ag
 ·subst ag;exact h.lt ae
 ·exact(h.opn a b ae x ag).1
def Inv.aeN(h:Inv g0 B J m H){x:Nat}(U:x∈ids m):B.H0.ao<=x\/B.X x:=by
 obtain⟨⟨a,b⟩,ae,ag⟩:=CF.1 U;rcases ag with ag|ag
 ·subst ag;exact(h.own _ b ae).2.1
 ·exact(h.opn a b ae x ag).2.1
def Inv.auY(h:Inv g0 B J m H){x:Nat}(U:x∈ids m):J x=none:=by
 obtain⟨⟨a,b⟩,ae,ag⟩:=CF.1 U;rcases ag with ag|ag
 ·subst ag;exact(h.own _ b ae).2.2.1
 ·exact(h.opn a b ae x ag).2.2
def Inv.Sd(h:Inv g0 B J m H):g0<=H.ao:=by have:=h.wf.lH;have:=h.bJ;omega
def Inv.new(h:Inv g0 B J m H){H1:aw}{b:fP}{p:df}(aF:H.new b=some (H.ao,H1))(ap:p.at B.Al H1 H.ao)(ar:p.rest=[]:=by rfl):Inv g0 B J ((H.ao,p)::m) H1:=by
 obtain⟨_,c2,fb,gf,hP,e2⟩:=aw.p4 aF;refine⟨h.wf.Vr aF,hP.trans h.bJ,by have:=h.ao;omega,by rw[gf];exact h.cC,fun a aI U=>?_,fun f ay=>by rw[fb];exact h.oe f ay,fun a c e aW=>?_,h.le,h.fresh,fun a b ak=>?_,fun a b ak x U=>?_,?_⟩
 ·rw[e2,aG (by have:=h.ao;omega)];exact h.fU a aI U
 ·obtain⟨o,f,z,s,q⟩:=h.eG a c e aW;exact⟨o,f,z,s,by rw[e2,aG (by have:=h.wf.lt q;omega)];exact q⟩
 ·rcases fs.1 ak with q|q
  ·injection q with aN aH;subst aN;subst aH
   exact⟨ap,.inl h.ao,h.Vu,h.Sd⟩
  ·obtain⟨aX,aT,bd,cm⟩:=h.own a b q;exact⟨df.yg aX (by rw[e2,aG (by have:=h.lt q;omega)]) (fun f l ay=>by rw[fb];exact ay),aT,bd,cm⟩
 ·rcases fs.1 ak with q|q
  ·injection q with aN aH;subst aN;subst aH;rw[ar] at U;cases U
  ·obtain⟨aX,aT,bd⟩:=h.opn a b q x U;exact⟨by omega,aT,bd⟩
 ·show(H.ao::(p.rest++ids m)).Nodup;rw[ar,nL,uL];exact⟨fun q=>absurd (h.Oe q) (DY _),h.gZ⟩
def Inv.alloc(h:Inv g0 B J m H)(cells:List Value)(e:TypeId):
 ∃H1,H.new (.row cells e false 0 0 false)=some (H.ao,H1)/\Inv g0 B J ((H.ao,.row cells e)::m) H1:=by
 obtain⟨H1,aF⟩:=h.wf.new (.row cells e false 0 0 false);obtain⟨_,c2,fb,gf,hP,e2⟩:=aw.p4 aF;exact⟨H1,aF,h.new aF (by show H1.mem.get H.ao=_;rw[e2,aP I])⟩
def Inv.bF(h:Inv g0 B J m H):∃H1,H.xC=some (H.cC,H1)/\Inv g0 B J m H1/\H1.ao=H.ao/\H1.bF.get H.cC=some [H.ao]/\B.H0.cC<=H.cC:=by
 obtain⟨H1,aF⟩:=h.wf.xC;obtain⟨_,c2,fb,gf,hP,e2⟩:=aw.Ot aF;refine⟨H1,aF,⟨h.wf.auS aF,hP.trans h.bJ,by rw[c2];exact h.ao,by have:=h.cC;omega,fun a aI U=>by rw[fb];exact h.fU a aI U,fun f ay=>?_,fun a c e aW=>by rw[fb];exact h.eG a c e aW,h.le,h.fresh,fun a b ak=>?_,fun a b ak x U=>by rw[c2];exact h.opn a b ak x U,h.gZ⟩,c2,by rw[e2,aP I],h.cC⟩
 ·rw[e2,aG (by have:=h.cC;have:=dN.anF ay;omega)];exact h.oe f ay
 ·obtain⟨aX,aT,bd,cm⟩:=h.own a b ak;exact⟨df.yg aX (by rw[fb]) (fun f l ay=>by rw[e2,aG (by have:=h.wf.Ik ay;omega)];exact ay),aT,bd,cm⟩
def Inv.pA(h:Inv g0 B J m H)(cells:List Value)(e:TypeId):
 ∃H1,H.pA cells e false=some (H.ao,H1)/\Inv g0 B J ((H.ao,.opn cells e [] 0)::m) H1:=by
 obtain⟨H1,aF,ae,dH,f1,auU⟩:=h.bF;obtain⟨bT,aV⟩:=ae.wf.new (.row cells e true H.cC 0 false);obtain⟨_,c2,fb,gf,hP,e2⟩:=aw.p4 aV;refine⟨bT,?_,?_⟩
 ·unfold aw.pA;rw[aF];simp only;rw[aV,dH]
 ·have:=ae.new (p:=.opn cells e [] 0) aV ⟨H.cC,.inl auU,by rw[e2,aP I],by rw[fb,f1,dH]⟩;rwa [dH] at this
inductive fY:List (Nat×df)->Nat->df->df->List (Nat×df)->Prop
 |head (a:Nat) (b b':df) (m:List (Nat×df)):fY ((a,b)::m) a b b' ((a,b')::m)
 |tail (x:Nat×df) {m m':List (Nat×df)} {a:Nat} {b b':df}:fY m a b b' m'->fY (x::m) a b b' (x::m')
def fY.mem{m m':List (Nat×df)}{a:Nat}{b b':df}(h:fY m a b b' m'):(a,b)∈m:=by
 induction h with
 |head=>exact .head _
 |tail _ _ aC=>exact .tail _ aC
def fY.adF{m m':List (Nat×df)}{a:Nat}{b b':df}(h:fY m a b b' m')(aA:(m.map Prod.fst).Nodup):∀x c,(x,c)∈m'->(x=a/\c=b')\/(x≠a/\(x,c)∈m):=by
 induction h with
 |head a b b' m=>
  intro x c U;rw[tp,uL] at aA;rcases fs.1 U with q|q
  ·injection q with aN aH;exact .inl ⟨aN,aH⟩
  ·refine .inr ⟨fun e=>aA.1 ?_,.tail _ q⟩;subst e;exact lf.2 ⟨_,q,I⟩
 |tail y ap aC=>
  intro x c U;rw[tp,uL] at aA;rcases fs.1 U with q|q
  ·refine .inr ⟨fun e=>aA.1 ?_,by rw[q];exact .head _⟩;have:y.1=x:=by rw[<-q]
   rw[this,e];exact lf.2 ⟨_,ap.mem,I⟩
  ·rcases aC aA.2 x c q with r|⟨dc,c9⟩
   ·exact .inl r
   ·exact .inr ⟨dc,.tail _ c9⟩
def fY.ids{m m':List (Nat×df)}{a:Nat}{b b':df}(h:fY m a b b' m')(ar:b'.rest=[]):(ids m').Sublist (ids m):=by
 induction h with
 |head a b b' m=>show(a::(b'.rest++Opn.ids m)).Sublist (a::(b.rest++Opn.ids m));rw[ar];exact .cons_cons _ (DV _ _)
 |tail x _ aC=>exact .cons_cons _ ((iC _).append (aC ar))
def Inv.upd(h:Inv g0 B J m H){a:Nat}{b p:df}{c:fP}{H1:aw}(ap:fY m a b p m')(aF:H.upd a c=some H1)(ax:p.at B.Al H1 a)(ar:p.rest=[]:=by rfl):Inv g0 B J m' H1:=by
 obtain⟨aX,aT,bd,cm⟩:=h.own a _ ap.mem;have eb:=asO h.gZ;have cI:=h.lt ap.mem;obtain⟨bH,c2,fb,gf,hP⟩:=aw.r7 aF;refine⟨h.wf.Pz cI aF,gf.trans h.bJ,by rw[bH];exact h.ao,by rw[fb];exact h.cC,fun x U eO=>?_,fun f ay=>by rw[c2];exact h.oe f ay,fun x c e aW=>?_,h.le,h.fresh,fun x b ak=>?_,fun x b ak y an=>?_,(ap.ids ar).nodup h.gZ⟩
 ·rw[hP,aG (fun q=>by subst q;rcases aT with q|q;·omega
                      ·exact eO q)]
  exact h.fU x U eO
 ·obtain⟨o,f,z,s,q⟩:=h.eG x c e aW
  exact⟨o,f,z,s,by rw[hP,aG (fun r=>by subst r;rw[bd] at aW;cases aW)];exact q⟩
 ·rcases ap.adF eb x b ak with⟨rfl,rfl⟩|⟨aN,aH⟩
  ·exact⟨ax,aT,bd,cm⟩
  ·obtain⟨eR,eo,kJ,m0⟩:=h.own x b aH
   exact⟨df.yg eR (by rw[hP,aG aN]) (fun f l ay=>by rw[c2];exact ay),eo,kJ,m0⟩
 ·rcases ap.adF eb x b ak with⟨rfl,rfl⟩|⟨aN,aH⟩
  ·rw[ar] at an;cases an
  ·rw[bH];exact h.opn x b aH y an
def Inv.store{a:Nat}{cells cells':List Value}{e:TypeId}(h:Inv g0 B J m H)(ap:fY m a (.row cells e) (.row cells' e) m'):
 ∃H1,H.upd a (.row cells' e false 0 0 false)=some H1/\Inv g0 B J m' H1:=by
 obtain⟨H1,aF⟩:=h.wf.upd (.row cells' e false 0 0 false) (h.lt ap.mem);exact⟨H1,aF,h.upd ap aF (by show H1.mem.get a=_;rw[(aw.r7 aF).2.2.2.2,aP I])⟩
def Inv.sub(h:Inv g0 B J m H)(hs:m'.Sublist m):Inv g0 B J m' H:=
 ⟨h.wf,h.bJ,h.ao,h.cC,h.fU,h.oe,h.eG,h.le,h.fresh,fun a b q=>h.own a b (hs.subset q),fun a b q=>h.opn a b (hs.subset q),(asP hs).nodup h.gZ⟩
def ai.add(J:ai)(a:Nat)(x:List Value×TypeId):ai:=fun i=>if i=a then some x else J i
def ai.lC(J:ai)(a:Nat)(x:List Value×TypeId):(J.add a x) a=some x:=aP I
def ai.ajj{J:ai}{a:Nat}{x:List Value×TypeId}(h:J a=none):J.le (J.add a x):=fun i y q=>by
 unfold ai.add;split
 ·rename_i e;subst e;rw[h] at q;cases q
 ·exact q
def df.rowOf:df->Option (List Value×TypeId)
 |.row c e=>some (c,e)
 |.opn c e _ _=>some (c,e)
 |.map _ _=>none
 |.loop _=>none
 |.g6=>none
def Inv.k8{a:Nat}{b:df}{x:List Value×TypeId}(h:Inv g0 B J ((a,b)::m) H)(U:b.rowOf=some x):Inv g0 B (J.add a x) m H/\J.le (J.add a x):=by
 obtain⟨aX,aT,bd,cm⟩:=h.own a b (.head _);have eb:=h.gZ;rw[show ids ((a,b)::m)=a::(b.rest++ids m) from I,uL,mm] at eb;have hle:=ai.ajj (x:=x) bd;refine⟨⟨h.wf,h.bJ,h.ao,h.cC,h.fU,h.oe,fun i c e aW=>?_,h.le.trans hle,fun i y q an=>?_,fun i p ap=>?_,fun i p ap y an=>?_,(DV _ _).nodup eb.2⟩,hle⟩
 ·unfold ai.add at aW;split at aW
  ·rename_i q;subst q;injection aW with aW;subst aW
   cases b with
   |row c' bA=>injection U with U;injection U with ae ag;subst ae;subst ag;exact⟨_,_,_,_,aX⟩
   |opn c' bA r z=>injection U with U;injection U with ae ag;subst ae;subst ag;obtain⟨f,_,k,_⟩:=aX;exact⟨_,_,_,_,k⟩
   |map es k=>cases U
   |loop r=>cases U
   |g6=>cases U
  ·exact h.eG i c e aW
 ·unfold ai.add at an;split at an
  ·rename_i e;subst e;exact aT
  ·exact h.fresh i y q an
 ·obtain⟨eR,eo,kJ,m0⟩:=h.own i p (.tail _ ap);refine⟨eR,eo,?_,m0⟩;unfold ai.add;rw[aG]
  ·exact kJ
  ·intro e;subst e;exact eb.1 (.inr (AJ ap))
 ·obtain⟨eR,eo,kJ⟩:=h.opn i p (.tail _ ap) y an;refine⟨eR,eo,?_⟩;unfold ai.add;rw[aG]
  ·exact kJ
  ·intro e;subst e;exact eb.1 (.inr (CF.2 ⟨_,ap,.inr an⟩))
end
end
end Go.Opn

/- A part of the proof of TableRounds. -/
import Derived.Test.YtfdhclnfkafebaaGreatDoorCaj
import Derived.Lib.MakeNoZero
import Derived.KernelRfl
import Derived.ChangeSame
import Derived.Lib.LaidTab
set_option linter.unusedVariables false
set_option linter.unusedSimpArgs false
namespace Go.Cre
noncomputable section
open Go.RowKit
section
variable {P:Program}{B:Nat->Prop}{w0 w:World}{μ fm bw:b5}{H H1 H':aw}{S bl aP:a5}{fr:Frame}{tmps:Array Value}{ds:List Deferred}{cs gA:List Frame}{k:List Item}
theorem aoj(av:fr.roundOf=none):step P (lone (bY fr tmps ds []) cs w)=.next (lone {bY fr tmps ds [] with mode:=.returning} cs w):=step_lone_go (by simp[stepG,stepG.exec,bY,av])
theorem aow(av:fr.roundOf=none):step P (lone (bY fr tmps ds (.code .ret::k)) cs w)=.next (lone {bY fr tmps ds (.code .ret::k) with mode:=.returning} cs w):=step_lone_go (by simp[stepG,stepG.exec,bY,av])
theorem amI:∀{l l':List Value},l.all plain=true->ca μ l l'->l'=l:=by
 intro l;induction l with
 |nil=>intro l' _ h;exact h.k5
 |cons x l aZ=>
  intro l' ap h;obtain⟨dP,m,rfl,ad,af⟩:=h.jH;simp only[B4,gI] at ap;rw[aZ ap.2 af,bu.Lp ap.1 ad]
theorem Yd(fn:Func)(ad:fn.name= "internal/bytealg.MakeNoZero"\/fn.name= "internal/abi.NoEscape")(af:fn.origin= ""):Extern.findNext fn=none:=by
 have aC:Extern.allNextRows.lookup "internal/bytealg.MakeNoZero"=none:=by kernel_rfl
 have aW:Extern.allNextRows.lookup "internal/abi.NoEscape"=none:=by kernel_rfl
 have cw:Extern.allNextRows.lookup ""=none:=by kernel_rfl
 unfold Extern.findNext;rcases ad with ad|ad<;>rw[ad,af]<;>simp[aC,aW,cw]
theorem afZ(fn:Func)(ad:fn.name= "internal/bytealg.MakeNoZero"):Extern.find fn=some (Extern.BytealgMakeNoZero.makeNoZero fn.params fn.resultTypes):=by
 have aC:Extern.allGenericRows.lookup "internal/bytealg.MakeNoZero"=none:=by kernel_rfl
 have aW:Extern.allTypedRows.lookup "internal/bytealg.MakeNoZero"=some Extern.BytealgMakeNoZero.makeNoZero:=by kernel_rfl
 unfold Extern.find;rw[ad];simp[aC,aW]
theorem af0(fn:Func)(ad:fn.name= "internal/abi.NoEscape"):Extern.find fn=some Extern.AbiNoEscape.same:=by
 have aC:Extern.allGenericRows.lookup "internal/abi.NoEscape"=none:=by kernel_rfl
 have aW:Extern.allTypedRows.lookup "internal/abi.NoEscape"=none:=by kernel_rfl
 have cw:Extern.allRows.lookup "internal/abi.NoEscape"=some Extern.AbiNoEscape.same:=by kernel_rfl
 unfold Extern.find;rw[ad];simp[aC,aW,cw]
theorem Uh{f:FuncId}{fn:Func}(aM:P.funcs[f]?=some fn)(ak:fn.body=none)(aE:(fn.name== "runtime.NumGoroutine")=false)(ad:Extern.findNext fn=none){x:Array Value->Sem Value}(af:Extern.find fn=some x){args:Array Value}{v:Value}{bn:World}(ab:(x args).run P w=.ok v bn):
 (callFunc f args).run P w=.ok (.value v) bn:=by
 have w4:¬fn.name= "runtime.NumGoroutine":=by simpa using aE
 simp[callFunc,program,Sem.run,aM,ak,w4,ad,af,mark,ab]
theorem afv{f:FuncId}{fn:Func}{args cq:List Value}{e:Ending}(aM:P.funcs[f]?=some fn)(ak:fn.body=none)(h:cd P B w0 μ H w)(aD:ca μ args cq)(he:Ac P fn f args H=some (e,H')):
 ∃v v' bn bw,e=.returned v/\(callFunc f cq.toArray).run P w=.ok (.value v') bn/\cd P B w0 bw H' bn/\Step μ bw H H'/\bu bw v v':=by
 unfold Ac at he;cases ap:args.all plain with
 |true=>
  rw[ap,cv] at he;obtain rfl:=amI ap aD;have hzero:NN P fn H cq fn.resultTypes.toList=some (e,H')->∃v v' bn bw,e=.returned v/\(callFunc f cq.toArray).run P w=.ok (.value v') bn/\cd P B w0 bw H' bn/\Step μ bw H H'/\bu bw v v':=by
   intro he;unfold NN at he;split at he
   ·rename_i n t sx _;cases aJ:(decide (fn.name= "internal/bytealg.MakeNoZero")&&decide (fn.origin= "")&&Nat.ble n 1000000) with
    |false=>rw[aJ] at he;cases he
    |true=>
     rw[aJ,cv] at he;simp only[gI,Jt] at aJ;obtain⟨⟨aX,aU⟩,b0⟩:=aJ;have b0:=hZ b0;split at he
     ·rename_i el hu;cases lY:Nat.beq (P.cellsOf el) 1 with
      |false=>rw[lY] at he;cases he
      |true=>
       rw[lY,cv] at he;have lY:=eC lY;unfold UU at he;cases hA:H.oj [] el false with
       |none=>rw[hA] at he;cases he
       |some p=>
        obtain⟨id,H1⟩:=p;rw[hA] at he;simp only[cD,dK] at he;obtain⟨rfl,rfl⟩:=he;obtain⟨Fh,bH,bM,db⟩:=Lib.run_makeNoZero w fn.params t el hu n (by omega);have aiU:fn.resultTypes=#[t]:=by
         apply rS;rw[sx]
        obtain⟨c1,fq,rfl⟩:=(h.drew.drew).QF (o:=.cells Fh el) (L:=⟨w.heap.size,Fh.size,1⟩) hA rfl (fun f=>⟨rfl,rfl,lY,ep _,(fun q=>by cases q),(fun i v v' q=>by simp at q),⟨fun off _ a b=>by simp at b,fun _=>.inl rfl⟩⟩);refine⟨_,.slice (some ⟨w.heap.size,0,none⟩) n Fh.size,_,_,rfl,?_,c1,fq,.pQ _ 0 n Fh.size ⟨w.heap.size,Fh.size,1⟩ (b5.kh _ _ _) bM (by simp)⟩;refine Uh aM ak (by rw[aX];rfl) (Yd fn (.inl aX) aU) (afZ fn aX) ?_;rw[aiU];exact bH
     ·cases he
   ·cases he
  unfold NO at he;split at he
  ·rename_i v ho;cases Pw:plain v with
   |false=>rw[Pw] at he;cases he
   |true=>
    rw[Pw,cv] at he;simp only[cD,dK] at he;obtain⟨rfl,rfl⟩:=he;exact⟨v,v,w,μ,rfl,UT ho w,h,Step.refl _ _,pN Pw⟩
  ·exact hzero he
 |false=>
  rw[ap,dB] at he;unfold UV at he;split at he
  ·rename_i v;cases aJ:(decide (fn.name= "internal/abi.NoEscape")&&decide (fn.origin= "")) with
   |false=>rw[aJ] at he;cases he
   |true=>
    rw[aJ,cv] at he;simp only[gI,Jt] at aJ;obtain⟨aX,aU⟩:=aJ;simp only[cD,dK] at he;obtain⟨rfl,rfl⟩:=he;obtain⟨v',l',rfl,ad,af⟩:=aD.jH;obtain rfl:=af.k5;refine⟨v,v',w,μ,rfl,?_,h,Step.refl _ _,ad⟩;exact Uh aM ak (by rw[aX];rfl) (Yd fn (.inr aX) aU) (af0 fn aX) rfl
  ·cases he
theorem a4.U'{α:Type}(a:α):∀(d n:Nat),(a4.full a d).get n=none\/(a4.full a d).get n=some a:=by
 intro d;induction d with
 |zero=>intro n;exact .inl rfl
 |succ d aZ=>
  intro n;cases n with
  |zero=>exact .inr rfl
  |succ m=>
   have e:a4.full a (d+1)=.node (some a) (a4.full a d) (a4.full a d):=rfl;rw[e,a4.q6];split<;>exact aZ _
theorem acr:∀{l:List Value} {i:Nat} {T eG:a4 Value},nS l i T=some eG->∀t,eG.get t=if i<=t/\t<i+l.length then l[t -i]? else T.get t:=by
 intro l;induction l with
 |nil=>intro i T eG h t;simp[nS] at h;subst h;rw[bd (by rw[B7];omega)]
 |cons v l aZ=>
  intro i T eG h t;simp only[nS] at h;cases ag:a4.set D6 T i v with
  |none=>rw[ag] at h;cases h
  |some yg=>
   rw[ag] at h;rw[aZ h t,a4.N1 ag];by_cases ad:i+1<=t/\t<i+1+l.length
   ·rw[bj ad,bj (by simp;omega)];have:t -i=(t -(i+1))+1:=by omega
    rw[this];rfl
   ·rw[bd ad];by_cases af:t=i
    ·subst af;rw[bj rfl,bj (by simp)];simp
    ·rw[bd af,bd (by simp;omega)]
theorem af7{args cq:List Value}{n:Nat}{T:a4 Value}(aD:ca μ args cq)(cB:nS args 0 (blank n)=some T):kq μ T n (cq.toArray++Array.replicate (n -cq.toArray.size) undef):=by
 refine⟨by simp;omega,fun t v h=>?_⟩;rw[acr cB] at h;by_cases aS:t<args.length
 ·rw[bj ⟨ep _,by omega⟩,Nat.sub_zero] at h;have Km:t<cq.length:=by have:=aD.1;omega
  have:(cq.toArray++Array.replicate (n -cq.toArray.size) undef).getD t undef=cq[t]:=by
   simp[Sz,Km]
  rw[this];exact aD.2 t v _ h (eE Km)
 ·rw[bd (by omega)] at h;have hu:v=undef:=by
   rcases a4.U' undef (NR n) t with q|q
   ·unfold blank at h;rw[q] at h;cases h
   ·unfold blank at h;rw[q] at h;injection h with h;exact h.symm
  subst hu;have Km:¬t<cq.length:=by have:=aD.1;omega
  have:(cq.toArray++Array.replicate (n -cq.toArray.size) undef).getD t undef=undef:=by
   simp only[Array.getD_eq_getD_getElem?,Sz,S9,Km,Dl,Array.getElem?_replicate];split<;>rfl
  rw[this];exact bu.undef μ
theorem T7{E:fN}(yJ:rT P B w0 E.code)(Au:ux P B w0 E.body){f:FuncId}{fn:Func}{c:Code}{args cq:List Value}{cb:Bool}{bE gL:FrameMode}{e:Ending}
 (aM:P.funcs[f]?=some fn)(ak:fn.body=some c)(he:EU P E fn c cb bE H (nS args 0 (blank fn.ntmps))=some (e,gL,H'))
 (h:cd P B w0 μ H w)(aD:ca μ args cq)(cs:List Frame)(h4:cb=true->∃z0 rest,cs=z0::rest/\o8 μ bE z0.mode):
 ∃bw bn b3 ns cN,cd P B w0 bw H' bn/\Step μ bw H H'/\Ep bw e b3/\Steps P (lone (Frame.enter P f cq.toArray (if cb then .deferred else .normal)) cs w) (lone ns cN bn)/\
  ns.kind=(if cb then .deferred else .normal)/\ns.fn=f/\ns.going P bn b3/\kn cb cs cN/\(cb=true->∃bH rest,cN=bH::rest/\o8 bw gL bH.mode):=by
 cases cB:nS args 0 (blank fn.ntmps) with
 |none=>rw[cB] at he;cases he
 |some T=>
  rw[cB] at he;have he:wi P E fn (E.code c ⟨T,fn.ntmps,[],cb,bE,none⟩ H)=some (e,gL,H'):=he
  let kZ:Frame:=Frame.enter P f cq.toArray (if cb then .deferred else .normal)
  have kL:kZ=bY kZ (cq.toArray++Array.replicate (fn.ntmps -cq.toArray.size) undef) [] [.code c]:=by
   simp[kZ,Frame.enter,bY,aM,ak]
  have b4:ib μ ⟨T,fn.ntmps,[],cb,bE,none⟩ kZ (cq.toArray++Array.replicate (fn.ntmps -cq.toArray.size) undef) [] cs:=
   ⟨af7 aD cB,.nil,rfl,fun _=>rfl,(fun l q=>by cases q),h4⟩
  cases av:E.code c ⟨T,fn.ntmps,[],cb,bE,none⟩ H with
  |none=>rw[av] at he;cases he
  |some p=>
   obtain⟨x,bl,H1⟩:=p;rw[av] at he;have aJ:=yJ c _ H x bl H1 av μ w kZ _ [] cs [] (.code c) h b4 (.inl rfl);rw[<-kL] at aJ;have dj:kZ.roundOf=none:=rfl
   --sX frame leaves
   have fin:∀(u u1:FrameMode) (fm:b5) (bm:World) (t1:Array Value) (d1:List Deferred) (gA:List Frame) (a7:List Item),Reached P B w0 μ H ⟨T,fn.ntmps,[],cb,bE,none⟩ kZ cs bl H1 fm bm t1 d1 gA->o8 fm u u1->u≠.run->
    Steps P (lone kZ cs w) (lone {bY kZ t1 d1 a7 with mode:=u1} gA bm)->r7 bl.bE (iY P E fn bl.T bl.ds u H1)=some (e,gL,H')->
    ∃bw bn b3 ns cN,cd P B w0 bw H' bn/\Step μ bw H H'/\Ep bw e b3/\Steps P (lone kZ cs w) (lone ns cN bn)/\
     ns.kind=(if cb then .deferred else .normal)/\ns.fn=f/\ns.going P bn b3/\kn cb cs cN/\(cb=true->∃bH rest,cN=bH::rest/\o8 bw gL bH.mode):=by
    intro u u1 fm bm t1 d1 gA a7 l2 hm hu dR rb;cases vj:iY P E fn bl.T bl.ds u H1 with
    |none=>rw[vj] at rb;cases rb
    |some q=>
     obtain⟨aW,cz⟩:=q;rw[vj] at rb;have rb:some (aW,bl.bE,cz)=some (e,gL,H'):=rb;simp only[cD,dK] at rb;obtain⟨rfl,rfl,rfl⟩:=rb;obtain⟨jO,bW,b3,Ag,ck,ch,c6,gg,gh,hg,gW⟩:=afz Au bl.ds u H1 aW cz vj fm bm {bY kZ t1 d1 a7 with mode:=u1} gA l2.h l2.f.t l2.f.d hm hu aM;refine⟨jO,bW,b3,Ag,gA,ck,l2.kB.trans ch,c6,dR.trans gg,gh,hg,gW,l2.c,fun aq=>?_⟩;obtain⟨bH,rest,a,b⟩:=l2.f.bE (l2.cb.trans aq);exact⟨bH,rest,a,b.mono ch.ext⟩
   cases x with
   |normal=>
    obtain⟨fm,bm,t1,d1,gA,l2,dR⟩:=aJ;exact fin .returning .returning fm bm t1 d1 gA [] l2 trivial (fun q=>by cases q) (dR.trans (.one (aoj dj))) he
   |ret=>
    obtain⟨fm,bm,t1,d1,gA,a7,l2,dR⟩:=aJ;exact fin .returning .returning fm bm t1 d1 gA (.code .ret::a7) l2 trivial (fun q=>by cases q) (dR.trans (.one (aow dj))) he
   |panic ct=>
    obtain⟨fm,bm,t1,d1,gA,z3,a7,l2,ON,dR⟩:=aJ;exact fin (.panicking ct) (.panicking z3) fm bm t1 d1 gA a7 l2 ON (fun q=>by cases q) dR he
   |exit id=>cases he
   |goto l=>cases he
   |outgrown=>cases he
structure td (P:Program) (fF:a4 Func):Prop where
 sJ:P.follows .mixedOrders=true
 fF:∀f fn,fF.get f=some fn->P.funcs[f]?=some fn
 num:∀(f:Nat) fn,P.funcs[f]?=some fn->fn.body.isSome=true->(fn.name== "runtime.NumGoroutine")=false
theorem Ft{f:FuncId}{fn:Func}{c:Code}(aM:P.funcs[f]?=some fn)(ak:fn.body=some c)(aE:(fn.name== "runtime.NumGoroutine")=false)(args:Array Value)(w:World):(callFunc f args).run P w=.ok (.enter f args) w:=by
 have w4:¬fn.name= "runtime.NumGoroutine":=by simpa using aE
 simp[callFunc,program,Sem.run,aM,ak,w4]
theorem UL{fF:a4 Func}(cX:td P fF){E:fN}(yJ:rT P B w0 E.code)(Au:ux P B w0 E.body):ux P B w0 (sd P fF E):=by
 intro f args bE H e gL H' he μ w cq h aD;unfold sd at he;cases oK:fF.get f with
 |none=>rw[oK] at he;cases he
 |some fn=>
  rw[oK] at he;have aM:=cX.fF f fn oK;cases ak:fn.body with
  |none=>simp only[ak] at he;cases he
  |some c=>
   simp only[ak] at he;refine⟨Ft aM ak (cX.num f fn aM (by rw[ak];rfl)) _ w,fun z0 cs hm=>?_⟩;obtain⟨bw,bn,b3,ns,cN,ck,ch,c6,gg,gh,hg,gW,qk,U5⟩:=T7 yJ Au aM ak he h aD (z0::cs) (fun _=>⟨z0,cs,rfl,hm⟩);obtain⟨bH,rest,m,aX,aU⟩:=qk;injection aX with aX b0;subst aX;subst b0
   obtain⟨bM,atI,dQ,ee⟩:=U5 rfl;rw[aU] at dQ;injection dQ with dQ fB;subst dQ;subst fB
   subst aU;exact⟨bw,bn,b3,m,ns,ck,ch,c6,ee,gg,gh,gW⟩
theorem ND{fF:a4 Func}(cX:td P fF){E:fN}(yJ:rT P B w0 E.code)(Au:ux P B w0 E.body):p0 P B w0 (fN.call ⟨E.code,sd P fF E⟩):=by
 intro f args H e H' he μ w cq h aD;unfold fN.call at he;cases gr:sd P fF E f args false .run H with
 |none=>simp only[gr] at he;cases he
 |some p=>
  obtain⟨aC,R5,H1⟩:=p;simp only[gr,cD,dK] at he;obtain⟨rfl,rfl⟩:=he;unfold sd at gr;cases oK:fF.get f with
  |none=>rw[oK] at gr;cases gr
  |some fn=>
   rw[oK] at gr;have aM:=cX.fF f fn oK;cases ak:fn.body with
   |none=>
    simp only[ak] at gr;have gr:r7 .run (Ac P fn f args H)=some (aC,R5,H1):=gr;cases ab:Ac P fn f args H with
    |none=>rw[ab] at gr;cases gr
    |some q=>
     obtain⟨aW,cz⟩:=q;rw[ab] at gr;have gr:some (aW,FrameMode.run,cz)=some (aC,R5,H1):=gr;simp only[cD,dK] at gr;obtain⟨rfl,rfl,rfl⟩:=gr;exact .inl (afv aM ak h aD ab)
   |some c=>
    simp only[ak] at gr;refine .inr ⟨Ft aM ak (cX.num f fn aM (by rw[ak];rfl)) _ w,fun cs=>?_⟩;obtain⟨bw,bn,b3,ns,cN,ck,ch,c6,gg,gh,hg,gW,qk,U5⟩:=T7 yJ Au aM ak gr h aD cs (fun q=>by cases q);have h4:cN=cs:=qk;subst h4;refine⟨b3,bn,ns,⟨bw,ck,ch,c6⟩,?_,hg,?_⟩
    ·cases b3 with
     |returned v=>exact gg
     |panicked ct=>exact gg
     |outgrown=>cases aC<;>exact c6.elim
    ·cases b3 with
     |returned v=>obtain⟨a,b,c⟩:=gW;exact⟨a,b,gh,c⟩
     |panicked ct=>exact gW
     |outgrown=>trivial
end
end
end Go.Cre
namespace Go.Cre
noncomputable section
open Go.RowKit
section
variable {P:Program}{B:Nat->Prop}{w0 w bn:World}{μ fm bw:b5}{H H1 H':aw}{S bl aP:a5}{fr:Frame}{tmps:Array Value}{ds:List Deferred}{cs gA:List Frame}{k:List Item}
theorem amY{n:Nat}:∀{ps:List Tmp} {args cq:List Value} {T eG:a4 Value} {tmps:Array Value},zd T ps args=some eG->ca μ args cq->kq μ T n tmps->EO n ps=true->
 ps.length=cq.length/\kq μ eG n ((ps.zip cq).foldl (fun tmps (x:Tmp×Value)=>tmps.setIfInBounds x.1 x.2) tmps):=by
 intro ps;induction ps with
 |nil=>
  intro args cq T eG tmps he aD aS _;cases args with
  |nil=>
   obtain rfl:=aD.k5;simp[zd] at he;subst he;exact⟨rfl,aS⟩
  |cons=>simp[zd] at he
 |cons t ps aZ=>
  intro args cq T eG tmps he aD aS ak;cases args with
  |nil=>simp[zd] at he
  |cons v args=>
   obtain⟨v',l',rfl,ad,af⟩:=aD.jH;simp only[zd] at he;simp only[EO,gI] at ak;have cA:t<n:=hZ ak.1;cases ag:a4.set D6 T t v with
   |none=>rw[ag] at he;cases he
   |some yg=>
    rw[ag] at he;have vm:kq μ yg n (tmps.setIfInBounds t v'):=by
     refine⟨by simpa using aS.1,fun x u q=>?_⟩;rw[a4.N1 ag] at q;by_cases ab:x=t
     ·subst ab;rw[bj rfl] at q;injection q with q;subst q
      have:(tmps.setIfInBounds x v').getD x undef=v':=by
       have:x<tmps.size:=iJ cA aS.1;simp[this]
      rw[this];exact ad
     ·rw[bd ab] at q;have:(tmps.setIfInBounds t v').getD x undef=tmps.getD x undef:=by
       simp[SA (Ne.symm ab)]
      rw[this];exact aS.2 x u q
    obtain⟨a,b⟩:=aZ he af vm ak.2;exact⟨by simp[a],b⟩
theorem aoo{l:Nat}{v:Value}{c:Frame}(av:fr.roundOf=some l)(hk:fr.kind=.normal)(gZ:(Instr.endRound l none).run P w=.ok v bn):
 step P (lone (bY fr tmps ds []) (c::cs) w)=.next (lone (c.finish v) cs bn):=step_lone_go (by simp[stepG,stepG.exec,bY,av,gZ,doReturn,hk])
theorem aoq{l:Nat}{v:Value}{c:Frame}(av:fr.roundOf=some l)(hk:fr.kind=.normal)(gZ:(Instr.endRound l (some .ret)).run P w=.ok v bn):
 step P (lone (bY fr tmps ds (.code .ret::k)) (c::cs) w)=.next (lone (c.finish v) cs bn):=step_lone_go (by simp[stepG,stepG.exec,bY,av,gZ,doReturn,hk])
theorem aop{l id:Nat}{v:Value}{c:Frame}(av:fr.roundOf=some l)(hk:fr.kind=.normal)(he:exitTo id k=none)(gZ:(Instr.endRound l (some (.exit id))).run P w=.ok v bn):
 step P (lone (bY fr tmps ds (.code (.exit id)::k)) (c::cs) w)=.next (lone (c.finish v) cs bn):=step_lone_go (by simp[stepG,stepG.exec,bY,av,he,gZ,doReturn,hk])
theorem aof{l:Nat}(av:fr.roundOf=some l)(gZ:(Instr.beginRound l).run P w=.ok () bn):
 step P (lone (bY fr tmps ds (.beginRound::k)) cs w)=.next (lone (bY fr tmps ds k) cs bn):=step_lone_go (by simp[stepG,stepG.exec,stepG.apply,bY,av,gZ,Frame.finish])
theorem GW(h:cd P B w0 μ H w){l:Nat}{L:Loc}{r:Ek}(bB:μ l=some L)(hm:H.mem.get l=some (.loop r)):
 ∃cW,w.heap[L.r]?=some (.loop cW)/\j5 P μ L (.loop r) (.loop cW):=by
 obtain⟨b,o,aX,aU,b0⟩:=h.gf l L bB;rw[hm] at aX;injection aX with aX;subst aX
 cases o with
 |loop cW=>exact⟨cW,aU,b0⟩
 |_=>exact b0.elim
theorem Sm(h:cd P B w0 μ H w){l:Nat}{L:Loc}{r dQ:Ek}{vJ:Loop}(bB:μ l=some L)(aF:H.bU<=l)(hm:H.mem.get l=some (.loop r))(hu:H.upd l (.loop dQ)=some H')(ak:j5 P μ L (.loop dQ) (.loop vJ)):
 cd P B w0 μ H' {w with heap:=w.heap.setIfInBounds L.r (.loop vJ)}/\Step μ μ H H':=
 h.aaO bB aF hm (fun _ _ _ _ _ _ q=>by cases q) (fun q=>by cases q) hu (fun _ _ _ _ _ _ q=>by cases q) ak
theorem L0{E:fN}(yJ:rT P B w0 E.code):yh P B w0 E.aQ:=by
 intro l args H e H' he μ w L cq h bB aD;unfold fN.aQ at he;cases hm:H.mem.get l with
 |none=>rw[hm] at he;cases he
 |some b=>
  rw[hm] at he;cases b with
  |loop r=>
   simp only at he;cases aJ:(Nat.ble H.bU l&&EO r.n r.params) with
   |false=>rw[aJ] at he;cases he
   |true=>
    rw[aJ,cv] at he;simp only[gI] at aJ;have aF:=hZ aJ.1;obtain⟨cW,gN,gO⟩:=GW h bB hm;obtain⟨bQ,bL,cZ,dE,fI,gz,b8,mB,mW⟩:=gO;cases ap:zd r.T r.params args with
    |none=>rw[ap] at he;cases he
    |some T=>
     rw[ap] at he;have he:aaU E l r.body (E.code r.assign ⟨T,r.n,[],false,.run,some l⟩ H)=some (e,H'):=he;obtain⟨hlen,cB⟩:=amY ap aD gz aJ.2;cases aI:E.code r.assign ⟨T,r.n,[],false,.run,some l⟩ H with
     |none=>rw[aI] at he;cases he
     |some p=>
      obtain⟨ev,bl,H1⟩:=p;rw[aI] at he;cases ev with
      |normal=>
       have he:Ss E l r.body bl H1=some (e,H'):=he;unfold Ss at he;cases C4:H1.mem.get l with
       |none=>rw[C4] at he;cases he
       |some b=>
        rw[C4] at he;cases b with
        |loop dQ=>
         simp only at he;cases dR:dQ.state with
         |ready=>
          simp only[dR] at he;cases hu:H1.upd l (.loop {dQ with state:=.busy}) with
          |none=>rw[hu] at he;cases he
          |some cz=>
           rw[hu] at he;have he:aaV l (E.code r.body bl cz)=some (e,H'):=he;cases ak:E.code r.body bl cz with
           |none=>rw[ak] at he;cases he
           |some p=>
            obtain⟨gH,zS,ic⟩:=p;rw[ak] at he;have he:(match Qh gH with|some j=>LZ ic l j|none=>none)=some (e,H'):=he
            cases bf:Qh gH with
            |none=>rw[bf] at he;cases he
            |some j=>
             rw[bf] at he;have he:LZ ic l j=some (e,H'):=he;unfold LZ at he;cases w1:ic.mem.get l with
             |none=>rw[w1] at he;cases he
             |some b=>
              rw[w1] at he;cases b with
              |loop fB=>
               simp only at he;cases PQ:ic.upd l (.loop {fB with state:=if j.isNone then .ready else .done,pending:=j}) with
               |none=>rw[PQ] at he;cases he
               |some mx=>
                rw[PQ] at he;have he:some (Ending.returned (.bool j.isNone),mx)=some (e,H'):=he;simp only[cD,dK] at he;obtain⟨rfl,rfl⟩:=he
                let pS:Array Value:=(cW.params.zip cq.toArray).foldl (fun tmps (x:Tmp×Value)=>tmps.setIfInBounds x.1 x.2) cW.tmps
                have aje:kq μ T r.n pS:=by
                 have aC:pS=(r.params.zip cq).foldl (fun tmps (x:Tmp×Value)=>tmps.setIfInBounds x.1 x.2) cW.tmps:=by
                  show(cW.params.zip cq.toArray).foldl _ _=_;rw[<-Array.foldl_toList,Array.toList_zip,cZ]
                 rw[aC];exact cB
                refine⟨_,cW.fn,pS,cW.assign,cW.body,rfl,?_,?_⟩
                ·have ea:cq.toArray.size=cW.params.size:=by
                  have:cW.params.size=cW.params.toList.length:=by simp
                  rw[this,cZ];simpa using hlen.symm
                 have Kl:cq.length=cW.params.size:=by simpa using ea
                 simp[Instr.yield,Instr.getLoop,getObj,Sem.run,gN,Kl,pS]
                ·intro caller cs
                 let kZ:Frame:=Frame.round L.r cW.fn pS cW.assign cW.body .normal
                 have kL:kZ=bY kZ pS [] [.code cW.assign,.beginRound,.code cW.body]:=rfl
                 have b4:ib μ ⟨T,r.n,[],false,.run,some l⟩ kZ pS [] (caller::cs):=
                  ⟨aje,.nil,rfl,(fun q=>by cases q),(fun l' q=>by injection q with q;subst q;exact⟨L,bB,rfl⟩),(fun q=>by cases q)⟩
                 have bH:=yJ r.assign _ H .normal bl H1 aI μ w kZ pS [] (caller::cs) [.beginRound,.code cW.body] (.code r.assign) h b4 (.inl rfl);rw[<-dE,<-kL] at bH;obtain⟨fm,bm,t1,d1,gA,jz,s1⟩:=bH;have J2:gA=caller::cs:=jz.c;subst J2;have Oo:fm l=some L:=jz.kB.ext _ _ bB;obtain⟨vJ,PA,aiR⟩:=GW jz.h Oo C4;obtain⟨hU,iH,jx,pX,pY,BR,Sq⟩:=aiR;have qo:H1.bU<=l:=by rw[jz.kB.bU];exact aF
                 obtain⟨abW,Tv⟩:=Sm (vJ:={vJ with state:=.busy}) jz.h Oo qo C4 hu ⟨rfl,iH,jx,pX,pY,BR,Sq⟩;have s2:step P (lone (bY kZ t1 d1 [.beginRound,.code cW.body]) (caller::cs) bm)=.next (lone (bY kZ t1 d1 [.code cW.body]) (caller::cs) {bm with heap:=bm.heap.setIfInBounds L.r (.loop {vJ with state:=.busy})}):=by
                  refine aof rfl ?_;have:vJ.state=.ready:=hU.trans dR;simp[Instr.beginRound,Instr.getLoop,getObj,setObj,Sem.run,PA,this]
                 have db:=yJ r.body bl cz gH zS ic ak fm _ kZ t1 d1 (caller::cs) [] (.code r.body) abW jz.f (.inl rfl);rw[<-fI] at db;have yH:bl.cb=false:=jz.cb
                 --sX round ends
                 have fin:∀(o3:b5) (eu:World) (t3:Array Value) (d3:List Deferred) (uT:List Frame) (todo:List Item),Reached P B w0 fm cz bl kZ (caller::cs) zS ic o3 eu t3 d3 uT->
                  (∀v kR,(Instr.endRound L.r j).run P eu=.ok v kR->step P (lone (bY kZ t3 d3 todo) (caller::cs) eu)=.next (lone (caller.finish v) cs kR))->
                  Steps P (lone (bY kZ t1 d1 [.code cW.body]) (caller::cs) {bm with heap:=bm.heap.setIfInBounds L.r (.loop {vJ with state:=.busy})}) (lone (bY kZ t3 d3 todo) uT eu)->
                  ∃v' bn bw,cd P B w0 bw mx bn/\Step μ bw H mx/\bu bw (.bool j.isNone) v'/\Steps P (lone kZ (caller::cs) w) (lone (caller.finish v') cs bn):=by
                  intro o3 eu t3 d3 uT todo r3 bD hK;have ahR:uT=caller::cs:=by have:=r3.c;rw[yH] at this;exact this
                  subst ahR;have FQ:o3 l=some L:=r3.kB.ext _ _ Oo;obtain⟨DZ,PB,PC⟩:=GW r3.h FQ w1;obtain⟨du,dt,BT,BU,L1,Ik,Il⟩:=PC;have OY:ic.bU<=l:=by rw[r3.kB.bU,Tv.bU];exact qo
                  obtain⟨uL,MB⟩:=Sm (vJ:={DZ with state:=if j.isNone then .ready else .done,pending:=j}) r3.h FQ OY w1 PQ ⟨rfl,rfl,BT,BU,L1,Ik,Il⟩;refine⟨.bool j.isNone,_,o3,uL,((jz.kB.trans Tv).trans r3.kB).trans MB,.atom _ rfl,?_⟩;refine(s1.trans (.head s2 hK)).trans (.one (bD _ _ ?_));simp[Instr.endRound,Instr.getLoop,getObj,setObj,Sem.run,PB]
                 cases gH with
                 |normal=>
                  injection bf with bf;subst bf
                  obtain⟨o3,eu,t3,d3,uT,r3,hK⟩:=db;exact fin o3 eu t3 d3 uT [] r3 (fun v kR q=>aoo rfl rfl q) hK
                 |ret=>
                  injection bf with bf;subst bf
                  obtain⟨o3,eu,t3,d3,uT,bJ,r3,hK⟩:=db;exact fin o3 eu t3 d3 uT _ r3 (fun v kR q=>aoq rfl rfl q) hK
                 |exit id=>
                  injection bf with bf;subst bf
                  obtain⟨o3,eu,t3,d3,uT,bJ,r3,ex,hK⟩:=db;exact fin o3 eu t3 d3 uT _ r3 (fun v kR q=>aop rfl rfl (ex.trans rfl) q) hK
                 |goto l=>cases bf
                 |panic c=>cases bf
                 |outgrown=>cases bf
              |_=>cases he
         |done=>simp only[dR] at he;cases he
         |busy=>simp only[dR] at he;cases he
         |exhausted=>simp only[dR] at he;cases he
        |_=>cases he
      |_=>cases he
  |_=>cases he
end
end
end Go.Cre
namespace Go.Cre
noncomputable section
open Go.RowKit
section
variable {P:Program}{B:Nat->Prop}{w0 w bn:World}{μ fm bw:b5}{H H1 H':aw}{S bl aP:a5}{fr:Frame}{tmps:Array Value}{ds:List Deferred}{cs gA:List Frame}{k:List Item}
theorem Y'{f:Operand}{l:Nat}{fn:Fn}{a b:Array Value}(az:df tmps f=.func fn a b):
 resolve (df tmps) {callee:=.value f,args:=#[.const (.func (.yield l) #[] #[])],argTypes:=#[]} 0=pure {target:=.fn fn b,args:=a.push (.func (.yield l) #[] #[])}:=by
 have e:#[Operand.const (.func (.yield l) #[] #[])].map (df tmps)=#[.func (.yield l) #[] #[]]:=by simp[df]
 simp only[resolve,e,az,Deferred.ofValue];simp
theorem aot{f:Operand}{params:Array Tmp}{assign body:Code}{l:Nat}{mark:List Deferred}{bm bW:World}{fn:Fn}{a b args:Array Value}{g:FuncId}
 (av:(Instr.enterLoop fr.fn tmps params assign body fr.roundOf).run P w=.ok (l,mark) bm)(az:df tmps f=.func fn a b)(ar:(invoke (.fn fn b) (a.push (.func (.yield l) #[] #[]))).run P bm=.ok (.enter g args) bW):
 step P (lone (bY fr tmps ds (.code (.rangeFunc f params assign body)::k)) cs w)=.next (lone (Frame.enter P g args .normal) (bY fr tmps (mark++ds) (.inRangeFunc l::k)::cs) bW):=by
 have he:=JD (fr:=fr) (tmps:=tmps) (ds:=mark++ds) (.inRangeFunc l::k);simp only[bY] at he;refine step_lone_go ?_;simp only[stepG,stepG.exec,bY,Sem.runT_eq,av,GStep.bare_after,he,Y' az,pure_bind];simp[stepG.apply,ar]
theorem aou{f:Operand}{params:Array Tmp}{assign body:Code}{l:Nat}{mark:List Deferred}{bm bW:World}{fn:Fn}{a b:Array Value}{v:Value}
 (av:(Instr.enterLoop fr.fn tmps params assign body fr.roundOf).run P w=.ok (l,mark) bm)(az:df tmps f=.func fn a b)(ar:(invoke (.fn fn b) (a.push (.func (.yield l) #[] #[]))).run P bm=.ok (.value v) bW):
 step P (lone (bY fr tmps ds (.code (.rangeFunc f params assign body)::k)) cs w)=.next (lone (bY fr tmps (mark++ds) (.endRangeFunc l::k)) cs bW):=by
 have he:=JD (fr:=fr) (tmps:=tmps) (ds:=mark++ds) (.inRangeFunc l::k);simp only[bY] at he;refine step_lone_go ?_;simp only[stepG,stepG.exec,bY,Sem.runT_eq,av,GStep.bare_after,he,Y' az,pure_bind];simp[stepG.apply,ar,Frame.finish]
theorem aos{l:Nat}{jump:Option Code}(av:(Instr.endLoop l).run P w=.ok jump bn):
 step P (lone (bY fr tmps ds (.endRangeFunc l::k)) cs w)=.next (lone (bY fr tmps ds ((jump.map Item.code).toList++k)) cs bn):=
 step_lone_go (by simp[stepG,stepG.exec,bY,av])
theorem am'(h:cd P B w0 μ H w)(aM:ib μ S fr tmps ds cs){d:Nat}{fQ:List Deferred}(he:Lw S H=some (d,fQ,H1)){params:Array Tmp}{assign body:Code}{l:Nat}{cz:aw}
 (aE:H1.new (.loop {state:=.ready,pending:=none,T:=S.T,n:=S.n,params:=params.toList,assign:=assign,body:=body,hR:=d})=some (l,cz)):
 ∃jO bW mark L,(Instr.enterLoop fr.fn tmps params assign body fr.roundOf).run P w=.ok (L.r,mark) bW/\cd P B w0 jO cz bW/\Step μ jO H cz/\jO l=some L/\s8 jO fQ (mark++ds)/\cz.bU<=l:=by
 --sX loop asX,from sX block for sX deferred calls on
 have fin:∀(fm:b5) (bm:World) (mark:List Deferred) (hQ:Loc),cd P B w0 fm H1 bm->Step μ fm H H1->fm d=some hQ->s8 fm fQ (mark++ds)->
  (Instr.enterLoop fr.fn tmps params assign body fr.roundOf).run P w=.ok (bm.heap.size,mark) (bm.alloc (.loop {state:=.ready,pending:=none,fn:=fr.fn,tmps:=tmps,params:=params,assign:=assign,body:=body,defers:=hQ.r}))->
  ∃jO bW mark L,(Instr.enterLoop fr.fn tmps params assign body fr.roundOf).run P w=.ok (L.r,mark) bW/\cd P B w0 jO cz bW/\Step μ jO H cz/\jO l=some L/\s8 jO fQ (mark++ds)/\cz.bU<=l:=by
  intro fm bm mark hQ ad s1 aq cy gZ;have kK:=ad.uZ ⟨bm.heap.size,0,0⟩
  obtain⟨c1,fq,aD⟩:=ad.made (o:=.loop {state:=.ready,pending:=none,fn:=fr.fn,tmps:=tmps,params:=params,assign:=assign,body:=body,defers:=hQ.r}) (L:=⟨bm.heap.size,0,0⟩) aE rfl rfl
   ⟨rfl,rfl,rfl,rfl,rfl,(aM.t.mono s1.ext).mono kK,hQ,kK _ _ aq,rfl⟩
  subst aD;refine⟨_,_,mark,⟨bm.heap.size,0,0⟩,gZ,c1,s1.trans fq,b5.kh _ _ _,cy.mono kK,?_⟩;rw[fq.bU];exact ad.kI
 unfold Lw at he;cases vk:S.cP with
 |some l0=>
  rw[vk] at he;simp only at he;cases hm:H.mem.get l0 with
  |none=>rw[hm] at he;cases he
  |some b=>
   rw[hm] at he;cases b with
   |loop ki=>
    simp only[cD,dK] at he;obtain⟨rfl,rfl,rfl⟩:=he;obtain⟨aq2,Al,aiW⟩:=aM.Bx l0 vk;obtain⟨atG,gN,gO⟩:=GW h Al hm;obtain⟨bQ,bL,cZ,dE,fI,gz,b8,mB,mW⟩:=gO;refine fin μ w [] b8 h (Step.refl _ _) mB aM.d ?_;rw[aiW];simp[Instr.enterLoop,Instr.getLoop,getObj,newObj,Sem.run,gN,mW]
   |_=>cases he
 |none=>
  rw[vk] at he;simp only at he;cases mF:H.new (.hR (some [])) with
  |none=>rw[mF] at he;cases he
  |some p=>
   obtain⟨r,p3⟩:=p;rw[mF] at he;simp only[cD,dK] at he;obtain⟨rfl,rfl,rfl⟩:=he;obtain⟨c1,fq,aD⟩:=h.made (o:=.deferred (some [])) (L:=⟨w.heap.size,0,0⟩) mF rfl rfl ⟨rfl,.inl rfl⟩;subst aD;refine fin _ _ [{target:=.collected w.heap.size,args:=#[]}] ⟨w.heap.size,0,0⟩ c1 fq (b5.kh _ _ _) (.cons _ _ _ _ (.inr ⟨H.aG,⟨w.heap.size,0,0⟩,rfl,b5.kh _ _ _,rfl⟩) (aM.d.mono fq.ext)) ?_;rw[aM.vL vk];simp[Instr.enterLoop,newObj,Sem.run]
theorem Y5{E:fN}(ih:p0 P B w0 E.call):Ts P B w0 E:=by
 intro f params assign body S H e aP H' he μ w fr tmps ds cs k h aM;unfold JA at he;cases dR:Lw S H with
 |none=>rw[dR] at he;cases he
 |some p=>
  obtain⟨d,fQ,H1⟩:=p;rw[dR] at he;simp only at he;cases aE:H1.new (.loop {state:=.ready,pending:=none,T:=S.T,n:=S.n,params:=params.toList,assign:=assign,body:=body,hR:=d}) with
  |none=>rw[aE] at he;cases he
  |some p=>
   obtain⟨l,cz⟩:=p;rw[aE] at he;simp only at he;obtain⟨jO,bW,mark,L,aX,aU,b0,dN,gl,iC⟩:=am' h aM dR aE;have yF:ib jO {S with ds:=fQ} fr tmps (mark++ds) cs:=by
    have:=aM.mono b0.ext;exact⟨this.t,gl,this.kind,this.vL,this.Bx,this.bE⟩
   have aq3:Reached P B w0 μ H S fr cs {S with ds:=fQ} cz jO bW tmps (mark++ds) cs:=⟨aU,b0,yF,kn.refl _ _ aM.vb,rfl,rfl⟩;cases eA:ba S.T cz f with
   |none=>rw[eA] at he;cases he
   |some k0=>
    rw[eA] at he;have kL:=ua aU yF.t (T:=S.T) eA;cases k0 with
    |func fn first captured=>
     have he:(match kY P cz fn (first.toList++[.func (.yield l) #[] #[]]) captured.toList with|none=>none|some (g,b2)=>Y3 {S with ds:=fQ} l (E.body g b2 false .run cz))=some (e,aP,H'):=he
     cases ho:kY P cz fn (first.toList++[.func (.yield l) #[] #[]]) captured.toList with
     |none=>rw[ho] at he;cases he
     |some p=>
      obtain⟨g,b2⟩:=p;rw[ho] at he;simp only at he;rcases kL.CF with⟨bV,b',az,tJ,ad,af⟩|⟨l',b8,rfl,_,rfl,rfl,az⟩
      ·have aB:ca jO [Value.func (.yield l) #[] #[]] [Value.func (.yield L.r) #[] #[]]:=ca.cons (.yield l L dN) (ca.nil _);obtain⟨iX,bO,bA⟩:=NH (w:=bW) (ad.append aB) af ho;have Tx:(invoke (.fn fn b') (bV.push (.func (.yield L.r) #[] #[]))).run P bW=(callFunc g iX.toArray).run P bW:=by
        rw[<-bO];have aC:(bV.toList++[Value.func (.yield L.r) #[] #[]]).toArray=bV.push (.func (.yield L.r) #[] #[]):=by apply rS;simp
        have aW:b'.toList.toArray=b':=by simp
        rw[aC,aW]
       cases ak:E.body g b2 false .run cz with
       |none=>rw[ak] at he;cases he
       |some p=>
        obtain⟨x,bE,ic⟩:=p;rw[ak] at he;have aJ:E.call g b2 cz=some (x,ic):=by unfold fN.call;rw[ak]
        --sX atd end
        have fin:∀(o3:b5) (eu:World) (v:Value),x=.returned v->cd P B w0 o3 ic eu->Step jO o3 cz ic->Steps P (lone (bY fr tmps ds (.code (.rangeFunc f params assign body)::k)) cs w) (lone (bY fr tmps (mark++ds) (.endRangeFunc L.r::k)) cs eu)->
         ma P B w0 μ H S fr cs (lone (bY fr tmps ds (.code (.rangeFunc f params assign body)::k)) cs w) k aP H' e:=by
         intro o3 eu v ab aV hK ag;subst ab;have he:Rp {S with ds:=fQ} l ic=some (e,aP,H'):=he;unfold Rp at he;cases w1:ic.mem.get l with
         |none=>rw[w1] at he;cases he
         |some b=>
          rw[w1] at he;cases b with
          |loop fB=>
           have FQ:o3 l=some L:=hK.ext _ _ dN;obtain⟨DZ,PB,PC⟩:=GW aV FQ w1;obtain⟨du,dt,BT,BU,L1,Ik,Il⟩:=PC;have OY:ic.bU<=l:=by rw[hK.bU];exact iC
           have yQ:fB.state≠.busy/\∃mx,ic.upd l (.loop {fB with state:=.exhausted})=some mx/\Y4 {S with ds:=fQ} fB.pending mx=some (e,aP,H'):=by
            simp only at he;cases ag:fB.state with
            |busy=>simp only[ag] at he;cases he
            |_=>
             simp only[ag] at he;cases hu:ic.upd l (.loop {fB with state:=.exhausted}) with
             |none=>rw[hu] at he;cases he
             |some mx=>rw[hu] at he;exact⟨(fun q=>by cases q),mx,rfl,he⟩
           obtain⟨yQ,mx,hu,he⟩:=yQ;obtain⟨uL,MB⟩:=Sm (vJ:={DZ with state:=.exhausted}) aV FQ OY w1 hu ⟨rfl,dt,BT,BU,L1,Ik,Il⟩;have rb:(Instr.endLoop L.r).run P eu=.ok fB.pending {eu with heap:=eu.heap.setIfInBounds L.r (.loop {DZ with state:=.exhausted})}:=by
            have ls:¬DZ.state=.busy:=by rw[du];exact yQ
            simp[Instr.endLoop,Instr.getLoop,getObj,setObj,Sem.run,PB,ls,dt]
           have sy:=ag.trans (.one (aos rb))
           have My:Reached P B w0 μ H S fr cs {S with ds:=fQ} mx o3 {eu with heap:=eu.heap.setIfInBounds L.r (.loop {DZ with state:=.exhausted})} tmps (mark++ds) cs:=
            ⟨uL,(b0.trans hK).trans MB,yF.mono hK.ext,kn.refl _ _ aM.vb,rfl,rfl⟩
           cases Wn:fB.pending with
           |none=>
            rw[Wn] at he sy;have he:some (Exit.normal,{S with ds:=fQ},mx)=some (e,aP,H'):=he;simp only[cD,dK] at he;obtain⟨rfl,rfl,rfl⟩:=he;exact⟨_,_,_,_,_,My,sy⟩
           |some c=>
            rw[Wn] at he sy;cases c with
            |ret=>
             have he:some (Exit.ret,{S with ds:=fQ},mx)=some (e,aP,H'):=he;simp only[cD,dK] at he;obtain⟨rfl,rfl,rfl⟩:=he;exact⟨_,_,_,_,_,k,My,sy⟩
            |exit id=>
             have he:some (Exit.exit id,{S with ds:=fQ},mx)=some (e,aP,H'):=he;simp only[cD,dK] at he;obtain⟨rfl,rfl,rfl⟩:=he;exact⟨_,_,_,_,_,k,My,rfl,sy⟩
            |_=>cases he
          |_=>cases he
        rcases ih g b2 cz x ic aJ jO bW iX aU bA with⟨v0,v',bn,bw,aC,aW,cw,ed,cH⟩|⟨aC,aW⟩
        ·exact fin bw bn v0 aC cw ed (.one (aou aX az (Tx.trans aW)))
        ·obtain⟨b3,bn,U2,⟨bw,ck,ch,c6⟩,CT,_,C3⟩:=aW (bY fr tmps (mark++ds) (.inRangeFunc L.r::k)::cs);have VO:=aot (cs:=cs) (k:=k) (ds:=ds) aX az (Tx.trans aC);cases b3 with
         |returned v'=>
          cases x with
          |returned v=>
           refine fin bw bn v rfl ck ch ?_;have:=step_leave_returned (cs:=cs) (c:=bY fr tmps (mark++ds) (.inRangeFunc L.r::k)) C3;exact .head VO (Steps.trans CT (.one this))
          |panicked c=>exact c6.elim
          |outgrown=>exact c6.elim
         |panicked c'=>
          cases x with
          |returned v=>exact c6.elim
          |outgrown=>exact c6.elim
          |panicked c=>
           have he:some (Exit.panic c,{S with ds:=fQ},ic)=some (e,aP,H'):=he;simp only[cD,dK] at he;obtain⟨rfl,rfl,rfl⟩:=he;have aiS:=step_leave_panicked (cs:=cs) (c:=bY fr tmps (mark++ds) (.inRangeFunc L.r::k)) C3;refine⟨bw,bn,tmps,mark++ds,cs,c',.inRangeFunc L.r::k,⟨ck,b0.trans ch,yF.mono ch.ext,kn.refl _ _ aM.vb,rfl,rfl⟩,c6,?_⟩;exact .head VO (Steps.trans CT (.one aiS))
         |outgrown=>cases x<;>exact c6.elim
      ·cases ho
    |_=>cases he
theorem afS{fF:a4 Func}(cX:td P fF):∀n,∀(B:Nat->Prop) (w0:World),rT P B w0 (uY P fF n).code/\ux P B w0 (uY P fF n).body/\p0 P B w0 (uY P fF n).call:=by
 intro n;induction n with
 |zero=>
  intro B w0;exact⟨(fun c S H e aP H' he=>by cases he),(fun f args bE H e gL H' he=>by cases he),(fun f args H e H' he=>by cases he)⟩
 |succ n aZ=>
  intro B w0;obtain⟨ad,af,aV⟩:=aZ B w0;exact⟨UO cX.sJ ad (fun iu iS _ _=>(aZ iu iS).2.2) (fun iu iS _ _=>L0 (aZ iu iS).1) (Y5 aV),UL cX ad af,ND cX ad af⟩
theorem afR{fF:a4 Func}(cX:td P fF)(n:Nat):rT P B w0 (uY P fF n).code/\ux P B w0 (uY P fF n).body/\p0 P B w0 (uY P fF n).call:=afS cX n B w0
end
end
end Go.Cre
namespace Go.Cre
noncomputable section
open Go.RowKit
section
variable {P:Program}{w:World}{H:aw}
structure Laid (P:Program) (w:World) (H:aw):Prop where
 bP:H.bP=.leaf
 aG:H.aG=H.bU
 rows:∀g b,H.mem.get g=some b->b=.dead\/∃cells e f,b=.row cells e false 0 tr true/\g<H.bU/\w.heap[g]?=some (.cells cells.toArray e f)/\cells.all plain=true/\cells.length<=tr
def FC (P:Program)(H:aw):b5:=fun g=>match H.mem.get g with
 |some (.row cells e _ _ _ _)=>some ⟨g,cells.length,P.cellsOf e⟩
 |_=>none
theorem af1(h:Laid P w H):cd P (fun k=>k<w.heap.size) w (FC P H) H w:=by
 have inv:∀g L,FC P H g=some L->∃cells e f,H.mem.get g=some (.row cells e false 0 tr true)/\L=⟨g,cells.length,P.cellsOf e⟩/\g<H.bU/\w.heap[g]?=some (.cells cells.toArray e f)/\cells.all plain=true/\cells.length<=tr:=by
  intro g L q;unfold FC at q;cases hm:H.mem.get g with
  |none=>rw[hm] at q;cases q
  |some b=>
   rw[hm] at q;rcases h.rows g b hm with rfl|⟨cells,e,f,rfl,bO,bA,cU,dn⟩
   ·cases q
   ·injection q with q;subst q
    exact⟨cells,e,f,rfl,rfl,bO,bA,cU,dn⟩
 refine⟨Kept.refl _ _,fun _ hk=>hk,?_,?_,?_,?_,?_,?_,by rw[h.aG];exact bX _,?_,?_,?_⟩
 ·intro g L q;obtain⟨cells,e,f,bO,rfl,cU,dn,cK,e6⟩:=inv g L q;refine⟨_,_,bO,dn,rfl,by simp,rfl,bX _,fun _=>rfl,fun i v v' x y=>?_,⟨fun off aj _ _=>iJ aj e6,fun q=>by cases q⟩⟩;have:v=v':=by
   rw[abn] at y;rw[x] at y;injection y
  subst this;exact pN (uE.1 cK v (jS x))
 ·intro x y hQ hX eM ab aB av;obtain⟨_,_,_,_,rfl,_⟩:=inv x hQ ab;obtain⟨_,_,_,_,rfl,_⟩:=inv y hX aB;exact absurd av eM
 ·intro x L ab;obtain⟨_,_,_,_,_,a,_⟩:=inv x L ab;rw[h.aG];exact a
 ·intro x L ab _;obtain⟨_,_,_,_,rfl,_⟩:=inv x L ab;rfl
 ·intro x L ab aF _;obtain⟨_,_,_,_,_,a,_⟩:=inv x L ab;omega
 ·intro g c e o f z s _ hm;exact⟨⟨g,c.length,P.cellsOf e⟩,by unfold FC;rw[hm]⟩
 ·intro x c e f z s hm;rcases h.rows x _ hm with q|⟨_,_,_,q,_⟩<;>cases q
 ·intro f l x aD;rw[h.bP] at aD;cases aD
 ·intro f l aD;rw[h.bP] at aD;cases aD
def isTrue (x:Option (Ending×FrameMode×aw)):Bool:=match x with|some (.returned (.bool b),_,_)=>b|_=>false
theorem adT{fF:a4 Func}(cX:td P fF){n:Nat}{f:FuncId}{fn:Func}{c:Code}(aM:P.funcs[f]?=some fn)(ak:fn.body=some c)(h:Laid P w H)(he:isTrue ((uY P fF n).body f [] false .run H)=true):
 Calls P f #[] w fun e bn=>e=.returned (.bool true)/\Below w.heap.size w bn:=by
 cases av:(uY P fF n).body f [] false .run H with
 |none=>rw[av] at he;cases he
 |some p=>
  obtain⟨e,bE,H'⟩:=p;rw[av] at he;have aJ:(uY P fF n).call f [] H=some (e,H'):=by unfold fN.call;rw[av]
  have ag:=(afR (B:=fun k=>k<w.heap.size) (w0:=w) cX n).2.2 f [] H e H' aJ (FC P H) w [] (af1 h) (ca.nil _);rcases ag with⟨v,v',bn,bw,_,q,_⟩|⟨_,q⟩
  ·rw[Ft aM ak (cX.num f fn aM (by rw[ak];rfl))] at q;cases q
  ·refine Calls.mono q fun b3 bn ⟨bw,ck,ch,c6⟩=>?_;cases e with
   |returned v=>
    cases v with
    |bool b=>
     have he:b=true:=he;subst he;cases b3 with
     |returned v'=>
      have az:bu bw (.bool true) v':=c6;rw[az.EV];exact⟨rfl,ck.below.below⟩
     |panicked c=>exact c6.elim
     |outgrown=>exact c6.elim
    |_=>cases he
   |panicked c=>cases he
   |outgrown=>cases he
theorem R0{α:Type}:∀{l:List α} {i:Nat} {T eG:a4 α},xT l i T=some eG->∀t,eG.get t=if i<=t/\t<i+l.length then l[t -i]? else T.get t:=by
 intro l;induction l with
 |nil=>intro i T eG h t;simp[xT] at h;subst h;rw[bd (by rw[B7];omega)]
 |cons v l aZ=>
  intro i T eG h t;simp only[xT] at h;cases ag:a4.set D6 T i v with
  |none=>rw[ag] at h;cases h
  |some yg=>
   rw[ag] at h;rw[aZ h t,a4.N1 ag];by_cases ad:i+1<=t/\t<i+1+l.length
   ·rw[bj ad,bj (by rw[lP];omega)];have:t -i=(t -(i+1))+1:=by omega
    rw[this];rfl
   ·rw[bd ad];by_cases af:t=i
    ·subst af;rw[bj rfl,bj (by simp)];simp
    ·rw[bd af,bd (by rw[lP];omega)]
def CD (P:Program):a4 Func:=match xT P.funcs.toList 0 .leaf with|some t=>t|none=>.leaf
def Q7 (P:Program):Bool:=P.funcs.toList.all fun fn=>fn.body.isNone||!(fn.name== "runtime.NumGoroutine")
theorem YI(hm:P.follows .mixedOrders=true)(aE:Q7 P=true):td P (CD P):=by
 refine⟨hm,fun f fn h=>?_,fun f fn aM ak=>?_⟩
 ·unfold CD at h;cases aS:xT P.funcs.toList 0 .leaf with
  |none=>rw[aS] at h;cases h
  |some t=>
   rw[aS] at h;rw[R0 aS] at h;split at h
   ·simpa using h
   ·cases h
 ·unfold Q7 at aE;rw[uE] at aE;have:=aE fn (by simpa using Iq aM);cases iy:fn.body with
  |none=>rw[iy] at ak;cases ak
  |some c=>simpa[iy] using this
def lay (T:a4 fs):List (Nat×TypeId×List Value)->a4 fs
 |[]=>T
 |(g,e,cells)::l=>match a4.put (.row cells e false 0 tr true) (lay T l) g with
  |some eG=>eG
  |none=>lay T l
theorem aki{T:a4 fs}:∀{l:List (Nat×TypeId×List Value)} {g:Nat} {b:fs},(lay T l).get g=some b->T.get g=some b\/∃e cells,(g,e,cells)∈l/\b=.row cells e false 0 tr true:=by
 intro l;induction l with
 |nil=>intro g b h;exact .inl h
 |cons x l aZ=>
  intro g b h;obtain⟨U4,e,cells⟩:=x;simp only[lay] at h;cases ap:a4.put (fs.row cells e false 0 tr true) (lay T l) U4 with
  |none=>
   rw[ap] at h;rcases aZ h with q|⟨b3,c',aX,aU⟩
   ·exact .inl q
   ·exact .inr ⟨b3,c',by simp[aX],aU⟩
  |some eG=>
   rw[ap] at h;simp only at h;rw[a4.get_put ap] at h;by_cases aF:g=U4
   ·subst aF;rw[bj rfl] at h;injection h with h
    exact .inr ⟨e,cells,by simp,h.symm⟩
   ·rw[bd aF] at h;rcases aZ h with q|⟨b3,c',aX,aU⟩
    ·exact .inl q
    ·exact .inr ⟨b3,c',by simp[aX],aU⟩
def UX (n d:Nat)(l:List (Nat×TypeId×List Value)):aw:=⟨lay (a4.full .dead d) l,n,.leaf,0,n⟩
theorem ake{n d:Nat}{l:List (Nat×TypeId×List Value)}(h:∀g e cells,(g,e,cells)∈l->g<n/\(∃f,w.heap[g]?=some (.cells cells.toArray e f))/\cells.all plain=true/\cells.length<=tr):Laid P w (UX n d l):=by
 refine⟨rfl,rfl,fun g b ak=>?_⟩;rcases aki ak with q|⟨e,cells,aX,aU⟩
 ·rcases a4.U' fs.dead d g with r|r
  ·rw[r] at q;cases q
  ·rw[r] at q;injection q with q;exact .inl q.symm
 ·obtain⟨bO,⟨f,bA⟩,cU,dn⟩:=h g e cells aX;exact .inr ⟨cells,e,f,aU,bO,bA,cU,dn⟩
end
end
end Go.Cre
namespace Go.Cre
noncomputable section
open Go.ChangeShapes
theorem Xc{P:Program}{W:World}{name:String}{k:IntKind}{zs:List Int}{g:Nat}{t:TypeId}(aF:P.globalNamed name=some g)(cA:g<P.globals.size)
 (av:(((begin P (fun _ _=>0) default).world.heap[g]?).bind Obj.row?).map (·.2)=some t)(ag:W.ShapedOpen P)(aS:Lib.TabIs P W name k zs):∃f,W.heap[g]?=some (.cells (zs.map fun z=>Value.int k z).toArray t f):=by
 obtain⟨⟨zero,lJ⟩,ad,af⟩:=qY.1 av;simp only at af;subst af;obtain⟨cs,a,_⟩:=ag.1 g zero lJ cA ad;unfold Lib.TabIs World.var? at aS;rw[aF] at aS;simp only[Tm,a,cD] at aS;subst aS;exact⟨_,a⟩
end
end Go.Cre
namespace Go.Cre
noncomputable section
open Go.RowKit
section
variable {P:Program}{B:Nat->Prop}{w0 w:World}{μ:b5}{H:aw}{S:a5}{fr:Frame}{tmps:Array Value}{ds:List Deferred}{cs:List Frame}
end
end
end Go.Cre
namespace Go.Cre
noncomputable section
open Go.RowKit
section
variable {P:Program}{B:Nat->Prop}{w0 w bn:World}{μ:b5}{H H0:aw}
theorem cd.grow(h:cd P B w0 μ H w)(ak:Below w.heap.size w bn):cd P B w0 μ H bn:=by
 have cA:∀x b8,μ x=some b8->b8.r<w.heap.size:=fun x b8 ab=>by
  obtain⟨b',o',_,aj,_⟩:=h.gf x b8 ab;rcases iK b8.r w.heap.size with c9|c9
  ·exact c9
  ·rw[s5 c9] at aj;cases aj
 refine⟨h.below.trans (.alI ak h.nT),fun k hk=>iJ (h.nT k hk) ak.size,fun x L ab=>?_,h.sep,h.lt,h.own,h.new,h.tv,h.kI,h.q4,h.lq,h.u0⟩;obtain⟨b,o,ad,af,aV⟩:=h.gf x L ab;exact⟨b,o,ad,by rw[ak.block _ (cA x L ab)];exact af,aV⟩
def IC(H0:aw)(B:Nat->Prop):Prop:=∀g b,H0.mem.get g=some b->b≠.dead->B g
theorem Laid.gE{B:Nat->Prop}(h:Laid P w0 H0)(e4:IC H0 B)(hk:Kept B w0 w):Laid P w H0:=by
 refine⟨h.bP,h.aG,fun g b aF=>?_⟩;rcases h.rows g b aF with q|⟨cells,e,f,aX,aU,b0,dN,gl⟩
 ·exact .inl q
 ·exact .inr ⟨cells,e,f,aX,aU,by rw[hk.block g (e4 g b aF (by rw[aX];intro q;cases q))];exact b0,dN,gl⟩
theorem Laid.ajM(h:Laid P w0 H0):IC H0 (fun k=>k<w0.heap.size):=fun g b aF ak=>by
 rcases h.rows g b aF with q|⟨cells,e,f,aX,aU,b0,dN,gl⟩
 ·exact absurd q ak
 ·exact(L3.1 b0).1
end
end
end Go.Cre
namespace Go.Cre
noncomputable section
end
end Go.Cre

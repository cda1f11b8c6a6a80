/- A part of the proof of TableLosses. -/
import Derived.Test.YtjbbbehaciogcaaGreatDoorCaj
import Derived.Lib.MakeNoZero
import Derived.KernelRfl
import Derived.ChangeSame
import Derived.Lib.LaidTab
set_option linter.unusedVariables false
set_option linter.unusedSimpArgs false
namespace Go.Cre
noncomputable section
open Go.RowKit
section
variable {P:Program}{B:Nat->Prop}{w0 w:World}{μ fA bh:bY}{H H1 H':ar}{S a4 aH:aZ}{fr:Frame}{tmps:Array Value}{ds:List Deferred}{cs gD:List Frame}{k:List Item}
theorem auT(ao:fr.roundOf=none):step P (lone (bP fr tmps ds []) cs w)=.next (lone {bP fr tmps ds [] with mode:=.returning} cs w):=step_lone_go (by simp[stepG,stepG.exec,bP,ao])
theorem au6(ao:fr.roundOf=none):step P (lone (bP fr tmps ds (.code .ret::k)) cs w)=.next (lone {bP fr tmps ds (.code .ret::k) with mode:=.returning} cs w):=step_lone_go (by simp[stepG,stepG.exec,bP,ao])
theorem asN:∀{l l':List Value},l.all plain=true->b3 μ l l'->l'=l:=by
 intro l;induction l with
 |nil=>intro l' _ h;exact h.lr
 |cons x l aP=>
  intro l' aw h;obtain⟨dV,m,rfl,ad,ae⟩:=h.jK;simp only[DD,gr] at aw;rw[aP aw.2 ae,bj.NI aw.1 ad]
theorem abW(fn:Func)(ad:fn.name= "internal/bytealg.MakeNoZero"\/fn.name= "internal/abi.NoEscape")(ae:fn.origin= ""):Extern.findNext fn=none:=by
 have ax:Extern.allNextRows.lookup "internal/bytealg.MakeNoZero"=none:=by kernel_rfl
 have aS:Extern.allNextRows.lookup "internal/abi.NoEscape"=none:=by kernel_rfl
 have cl:Extern.allNextRows.lookup ""=none:=by kernel_rfl
 unfold Extern.findNext;rcases ad with ad|ad<;>rw[ad,ae]<;>simp[ax,aS,cl]
theorem akX(fn:Func)(ad:fn.name= "internal/bytealg.MakeNoZero"):Extern.find fn=some (Extern.BytealgMakeNoZero.makeNoZero fn.params fn.resultTypes):=by
 have ax:Extern.allGenericRows.lookup "internal/bytealg.MakeNoZero"=none:=by kernel_rfl
 have aS:Extern.allTypedRows.lookup "internal/bytealg.MakeNoZero"=some Extern.BytealgMakeNoZero.makeNoZero:=by kernel_rfl
 unfold Extern.find;rw[ad];simp[ax,aS]
theorem akY(fn:Func)(ad:fn.name= "internal/abi.NoEscape"):Extern.find fn=some Extern.AbiNoEscape.same:=by
 have ax:Extern.allGenericRows.lookup "internal/abi.NoEscape"=none:=by kernel_rfl
 have aS:Extern.allTypedRows.lookup "internal/abi.NoEscape"=none:=by kernel_rfl
 have cl:Extern.allRows.lookup "internal/abi.NoEscape"=some Extern.AbiNoEscape.same:=by kernel_rfl
 unfold Extern.find;rw[ad];simp[ax,aS,cl]
theorem Xk{f:FuncId}{fn:Func}(aA:P.funcs[f]?=some fn)(ai:fn.body=none)(aE:(fn.name== "runtime.NumGoroutine")=false)(ad:Extern.findNext fn=none){x:Array Value->Sem Value}(ae:Extern.find fn=some x){args:Array Value}{v:Value}{a8:World}(aa:(x args).run P w=.ok v a8):
 (callFunc f args).run P w=.ok (.value v) a8:=by
 have Cd:¬fn.name= "runtime.NumGoroutine":=by simpa using aE
 simp[callFunc,program,Sem.run,aA,ai,Cd,ad,ae,mark,aa]
theorem aki{f:FuncId}{fn:Func}{args cb:List Value}{e:Ending}(aA:P.funcs[f]?=some fn)(ai:fn.body=none)(h:b8 P B w0 μ H w)(aq:b3 μ args cb)(he:Bv P fn f args H=some (e,H')):
 ∃v v' a8 bh,e=.returned v/\(callFunc f cb.toArray).run P w=.ok (.value v') a8/\b8 P B w0 bh H' a8/\Step μ bh H H'/\bj bh v v':=by
 unfold Bv at he;cases aw:args.all plain with
 |true=>
  rw[aw,cd] at he;obtain rfl:=asN aw aq;have hzero:QP P fn H cb fn.resultTypes.toList=some (e,H')->∃v v' a8 bh,e=.returned v/\(callFunc f cb.toArray).run P w=.ok (.value v') a8/\b8 P B w0 bh H' a8/\Step μ bh H H'/\bj bh v v':=by
   intro he;unfold QP at he;split at he
   ·rename_i n t oJ _;cases aC:(decide (fn.name= "internal/bytealg.MakeNoZero")&&decide (fn.origin= "")&&Nat.ble n 1000000) with
    |false=>rw[aC] at he;cases he
    |true=>
     rw[aC,cd] at he;simp only[gr,LB] at aC;obtain⟨⟨aL,aG⟩,bt⟩:=aC;have bt:=h3 bt;split at he
     ·rename_i el hu;cases m5:Nat.beq (P.cellsOf el) 1 with
      |false=>rw[m5] at he;cases he
      |true=>
       rw[m5,cd] at he;have m5:=ez m5;unfold X' at he;cases e6:H.oO [] el false with
       |none=>rw[e6] at he;cases he
       |some p=>
        obtain⟨id,H1⟩:=p;rw[e6] at he;simp only[cn,dr] at he;obtain⟨rfl,rfl⟩:=he;obtain⟨G',bb,br,cc⟩:=Lib.run_makeNoZero w fn.params t el hu n (by omega);have aop:fn.resultTypes=#[t]:=by
         apply rv;rw[oJ]
        obtain⟨cW,eE,rfl⟩:=(h.drew.drew).TJ (o:=.cells G' el) (L:=⟨w.heap.size,G'.size,1⟩) e6 rfl (fun f=>⟨rfl,rfl,m5,c5 _,(fun q=>by cases q),(fun i v v' q=>by simp at q),⟨fun off _ a b=>by simp at b,fun _=>.inl rfl⟩⟩);refine⟨_,.slice (some ⟨w.heap.size,0,none⟩) n G'.size,_,_,rfl,?_,cW,eE,.qA _ 0 n G'.size ⟨w.heap.size,G'.size,1⟩ (bY.kw _ _ _) br (by simp)⟩;refine Xk aA ai (by rw[aL];rfl) (abW fn (.inl aL) aG) (akX fn aL) ?_;rw[aop];exact bb
     ·cases he
   ·cases he
  unfold QQ at he;split at he
  ·rename_i v g7;cases SC:plain v with
   |false=>rw[SC] at he;cases he
   |true=>
    rw[SC,cd] at he;simp only[cn,dr] at he;obtain⟨rfl,rfl⟩:=he;exact⟨v,v,w,μ,rfl,X8 g7 w,h,Step.refl _ _,qu SC⟩
  ·exact hzero he
 |false=>
  rw[aw,dK] at he;unfold Ya at he;split at he
  ·rename_i v;cases aC:(decide (fn.name= "internal/abi.NoEscape")&&decide (fn.origin= "")) with
   |false=>rw[aC] at he;cases he
   |true=>
    rw[aC,cd] at he;simp only[gr,LB] at aC;obtain⟨aL,aG⟩:=aC;simp only[cn,dr] at he;obtain⟨rfl,rfl⟩:=he;obtain⟨v',l',rfl,ad,ae⟩:=aq.jK;obtain rfl:=ae.lr;refine⟨v,v',w,μ,rfl,?_,h,Step.refl _ _,ad⟩;exact Xk aA ai (by rw[aL];rfl) (abW fn (.inr aL) aG) (akY fn aL) rfl
  ·cases he
theorem a0.Yw{α:Type}(a:α):∀(d n:Nat),(a0.full a d).get n=none\/(a0.full a d).get n=some a:=by
 intro d;induction d with
 |zero=>intro n;exact .inl rfl
 |succ d aP=>
  intro n;cases n with
  |zero=>exact .inr rfl
  |succ m=>
   have e:a0.full a (d+1)=.node (some a) (a0.full a d) (a0.full a d):=rfl;rw[e,a0.rO];split<;>exact aP _
theorem agN:∀{l:List Value} {i:Nat} {T dZ:a0 Value},ou l i T=some dZ->∀t,dZ.get t=if i<=t/\t<i+l.length then l[t -i]? else T.get t:=by
 intro l;induction l with
 |nil=>intro i T dZ h t;simp[ou] at h;subst h;rw[aQ (by rw[DG];omega)]
 |cons v l aP=>
  intro i T dZ h t;simp only[ou] at h;cases hs:a0.set F1 T i v with
  |none=>rw[hs] at h;cases h
  |some qK=>
   rw[hs] at h;rw[aP h t,a0.Q6 hs];by_cases ad:i+1<=t/\t<i+1+l.length
   ·rw[aV ad,aV (by simp;omega)];have:t -i=(t -(i+1))+1:=by omega
    rw[this];rfl
   ·rw[aQ ad];by_cases ae:t=i
    ·subst ae;rw[aV rfl,aV (by simp)];simp
    ·rw[aQ ae,aQ (by simp;omega)]
theorem ala{args cb:List Value}{n:Nat}{T:a0 Value}(aq:b3 μ args cb)(cB:ou args 0 (blank n)=some T):kF μ T n (cb.toArray++Array.replicate (n -cb.toArray.size) undef):=by
 refine⟨by simp;omega,fun t v h=>?_⟩;rw[agN cB] at h;by_cases aI:t<args.length
 ·rw[aV ⟨c5 _,by omega⟩,Nat.sub_zero] at h;have ME:t<cb.length:=by have:=aq.1;omega
  have:(cb.toArray++Array.replicate (n -cb.toArray.size) undef).getD t undef=cb[t]:=by
   simp[VF,ME]
  rw[this];exact aq.2 t v _ h (ey ME)
 ·rw[aQ (by omega)] at h;have hu:v=undef:=by
   rcases a0.Yw undef (QU n) t with q|q
   ·unfold blank at h;rw[q] at h;cases h
   ·unfold blank at h;rw[q] at h;injection h with h;exact h.symm
  subst hu;have ME:¬t<cb.length:=by have:=aq.1;omega
  have:(cb.toArray++Array.replicate (n -cb.toArray.size) undef).getD t undef=undef:=by
   simp only[Array.getD_eq_getD_getElem?,VF,We,ME,yp,Array.getElem?_replicate];split<;>rfl
  rw[this];exact bj.undef μ
theorem W'{E:fZ}(zY:sn P B w0 E.code)(B1:vd P B w0 E.body){f:FuncId}{fn:Func}{c:Code}{args cb:List Value}{bR:Bool}{bg gV:FrameMode}{e:Ending}
 (aA:P.funcs[f]?=some fn)(ai:fn.body=some c)(he:GM P E fn c bR bg H (ou args 0 (blank fn.ntmps))=some (e,gV,H'))
 (h:b8 P B w0 μ H w)(aq:b3 μ args cb)(cs:List Frame)(g3:bR=true->∃vG rest,cs=vG::rest/\pN μ bg vG.mode):
 ∃bh a8 bD nZ cG,b8 P B w0 bh H' a8/\Step μ bh H H'/\AW bh e bD/\Steps P (lone (Frame.enter P f cb.toArray (if bR then .deferred else .normal)) cs w) (lone nZ cG a8)/\
  nZ.kind=(if bR then .deferred else .normal)/\nZ.fn=f/\nZ.going P a8 bD/\kh bR cs cG/\(bR=true->∃bb rest,cG=bb::rest/\pN bh gV bb.mode):=by
 cases cB:ou args 0 (blank fn.ntmps) with
 |none=>rw[cB] at he;cases he
 |some T=>
  rw[cB] at he;have he:xx P E fn (E.code c ⟨T,fn.ntmps,[],bR,bg,none⟩ H)=some (e,gV,H'):=he
  let ld:Frame:=Frame.enter P f cb.toArray (if bR then .deferred else .normal)
  have k2:ld=bP ld (cb.toArray++Array.replicate (fn.ntmps -cb.toArray.size) undef) [] [.code c]:=by
   simp[ld,Frame.enter,bP,aA,ai]
  have bM:il P μ ⟨T,fn.ntmps,[],bR,bg,none⟩ ld (cb.toArray++Array.replicate (fn.ntmps -cb.toArray.size) undef) [] cs:=
   ⟨ala aq cB,.nil,rfl,fun _=>rfl,(fun l q=>by cases q),g3,fn,aA⟩
  cases ao:E.code c ⟨T,fn.ntmps,[],bR,bg,none⟩ H with
  |none=>rw[ao] at he;cases he
  |some p=>
   obtain⟨x,a4,H1⟩:=p;rw[ao] at he;have aC:=zY c _ H x a4 H1 ao μ w ld _ [] cs [] (.code c) h bM (.inl rfl);rw[<-k2] at aC;have cT:ld.roundOf=none:=rfl
   --tq frame leaves
   have fin:∀(u u1:FrameMode) (fA:bY) (bl:World) (t1:Array Value) (d1:List Deferred) (gD:List Frame) (aW:List Item),Reached P B w0 μ H ⟨T,fn.ntmps,[],bR,bg,none⟩ ld cs a4 H1 fA bl t1 d1 gD->pN fA u u1->u≠.run->
    Steps P (lone ld cs w) (lone {bP ld t1 d1 aW with mode:=u1} gD bl)->qM a4.bg (hL P E fn a4.T a4.ds u H1)=some (e,gV,H')->
    ∃bh a8 bD nZ cG,b8 P B w0 bh H' a8/\Step μ bh H H'/\AW bh e bD/\Steps P (lone ld cs w) (lone nZ cG a8)/\
     nZ.kind=(if bR then .deferred else .normal)/\nZ.fn=f/\nZ.going P a8 bD/\kh bR cs cG/\(bR=true->∃bb rest,cG=bb::rest/\pN bh gV bb.mode):=by
    intro u u1 fA bl t1 d1 gD aW mb hm hu dB p8;cases nt:hL P E fn a4.T a4.ds u H1 with
    |none=>rw[nt] at p8;cases p8
    |some q=>
     obtain⟨aS,bW⟩:=q;rw[nt] at p8;have p8:some (aS,a4.bg,bW)=some (e,gV,H'):=p8;simp only[cn,dr] at p8;obtain⟨rfl,rfl,rfl⟩:=p8;obtain⟨jU,b7,bD,BC,b4,bZ,cH,fX,gf,hc,gU⟩:=akm B1 a4.ds u H1 aS bW nt fA bl {bP ld t1 d1 aW with mode:=u1} gD mb.h mb.f.t mb.f.d hm hu aA;refine⟨jU,b7,bD,BC,gD,b4,mb.jm.trans bZ,cH,dB.trans fX,gf,hc,gU,mb.c,fun au=>?_⟩;obtain⟨bb,rest,a,b⟩:=mb.f.bg (mb.bR.trans au);exact⟨bb,rest,a,b.mono bZ.ext⟩
   cases x with
   |normal=>
    obtain⟨fA,bl,t1,d1,gD,mb,dB⟩:=aC;exact fin .returning .returning fA bl t1 d1 gD [] mb trivial (fun q=>by cases q) (dB.trans (.one (auT cT))) he
   |ret=>
    obtain⟨fA,bl,t1,d1,gD,aW,mb,dB⟩:=aC;exact fin .returning .returning fA bl t1 d1 gD (.code .ret::aW) mb trivial (fun q=>by cases q) (dB.trans (.one (au6 cT))) he
   |panic bw=>
    obtain⟨fA,bl,t1,d1,gD,xC,aW,mb,H6,dB⟩:=aC;exact fin (.panicking bw) (.panicking xC) fA bl t1 d1 gD aW mb H6 (fun q=>by cases q) dB he
   |exit id=>cases he
   |goto l=>cases he
   |outgrown=>cases he
structure tF (P:Program) (fE:a0 Func):Prop where
 re:P.follows .mixedOrders=true
 fE:∀f fn,fE.get f=some fn->P.funcs[f]?=some fn
 num:∀(f:Nat) fn,P.funcs[f]?=some fn->fn.body.isSome=true->(fn.name== "runtime.NumGoroutine")=false
theorem Hn{f:FuncId}{fn:Func}{c:Code}(aA:P.funcs[f]?=some fn)(ai:fn.body=some c)(aE:(fn.name== "runtime.NumGoroutine")=false)(args:Array Value)(w:World):(callFunc f args).run P w=.ok (.enter f args) w:=by
 have Cd:¬fn.name= "runtime.NumGoroutine":=by simpa using aE
 simp[callFunc,program,Sem.run,aA,ai,Cd]
theorem X0{fE:a0 Func}(cI:tF P fE){E:fZ}(zY:sn P B w0 E.code)(B1:vd P B w0 E.body):vd P B w0 (sM P fE E):=by
 intro f args bg H e gV H' he μ w cb h aq;unfold sM at he;cases q3:fE.get f with
 |none=>rw[q3] at he;cases he
 |some fn=>
  rw[q3] at he;have aA:=cI.fE f fn q3;cases ai:fn.body with
  |none=>simp only[ai] at he;cases he
  |some c=>
   simp only[ai] at he;refine⟨Hn aA ai (cI.num f fn aA (by rw[ai];rfl)) _ w,fun vG cs hm=>?_⟩;obtain⟨bh,a8,bD,nZ,cG,b4,bZ,cH,fX,gf,hc,gU,o8,Yq⟩:=W' zY B1 aA ai he h aq (vG::cs) (fun _=>⟨vG,cs,rfl,hm⟩);obtain⟨bb,rest,m,aL,aG⟩:=o8;injection aL with aL bt;subst aL;subst bt
   obtain⟨br,aA1,dq,c2⟩:=Yq rfl;rw[aG] at dq;injection dq with dq fp;subst dq;subst fp
   subst aG;exact⟨bh,a8,bD,m,nZ,b4,bZ,cH,c2,fX,gf,gU⟩
theorem QF{fE:a0 Func}(cI:tF P fE){E:fZ}(zY:sn P B w0 E.code)(B1:vd P B w0 E.body):pC P B w0 (fZ.call ⟨E.code,sM P fE E⟩):=by
 intro f args H e H' he μ w cb h aq;unfold fZ.call at he;cases gL:sM P fE E f args false .run H with
 |none=>simp only[gL] at he;cases he
 |some p=>
  obtain⟨ax,Vb,H1⟩:=p;simp only[gL,cn,dr] at he;obtain⟨rfl,rfl⟩:=he;unfold sM at gL;cases q3:fE.get f with
  |none=>rw[q3] at gL;cases gL
  |some fn=>
   rw[q3] at gL;have aA:=cI.fE f fn q3;cases ai:fn.body with
   |none=>
    simp only[ai] at gL;have gL:qM .run (Bv P fn f args H)=some (ax,Vb,H1):=gL;cases aa:Bv P fn f args H with
    |none=>rw[aa] at gL;cases gL
    |some q=>
     obtain⟨aS,bW⟩:=q;rw[aa] at gL;have gL:some (aS,FrameMode.run,bW)=some (ax,Vb,H1):=gL;simp only[cn,dr] at gL;obtain⟨rfl,rfl,rfl⟩:=gL;exact .inl (aki aA ai h aq aa)
   |some c=>
    simp only[ai] at gL;refine .inr ⟨Hn aA ai (cI.num f fn aA (by rw[ai];rfl)) _ w,fun cs=>?_⟩;obtain⟨bh,a8,bD,nZ,cG,b4,bZ,cH,fX,gf,hc,gU,o8,Yq⟩:=W' zY B1 aA ai gL h aq cs (fun q=>by cases q);have g3:cG=cs:=o8;subst g3;refine⟨bD,a8,nZ,⟨bh,b4,bZ,cH⟩,?_,hc,?_⟩
    ·cases bD with
     |returned v=>exact fX
     |panicked bw=>exact fX
     |outgrown=>cases ax<;>exact cH.elim
    ·cases bD with
     |returned v=>obtain⟨a,b,c⟩:=gU;exact⟨a,b,gf,c⟩
     |panicked bw=>exact gU
     |outgrown=>trivial
end
end
end Go.Cre
namespace Go.Cre
noncomputable section
open Go.RowKit
section
variable {P:Program}{B:Nat->Prop}{w0 w a8:World}{μ fA bh:bY}{H H1 H':ar}{S a4 aH:aZ}{fr:Frame}{tmps:Array Value}{ds:List Deferred}{cs gD:List Frame}{k:List Item}
theorem as1{n:Nat}:∀{ps:List Tmp} {args cb:List Value} {T dZ:a0 Value} {tmps:Array Value},uQ T ps args=some dZ->b3 μ args cb->kF μ T n tmps->vA n ps=true->
 ps.length=cb.length/\kF μ dZ n ((ps.zip cb).foldl (fun tmps (x:Tmp×Value)=>tmps.setIfInBounds x.1 x.2) tmps):=by
 intro ps;induction ps with
 |nil=>
  intro args cb T dZ tmps he aq aI _;cases args with
  |nil=>
   obtain rfl:=aq.lr;simp[uQ] at he;subst he;exact⟨rfl,aI⟩
  |cons=>simp[uQ] at he
 |cons t ps aP=>
  intro args cb T dZ tmps he aq aI ai;cases args with
  |nil=>simp[uQ] at he
  |cons v args=>
   obtain⟨v',l',rfl,ad,ae⟩:=aq.jK;simp only[uQ] at he;simp only[vA,gr] at ai;have cD:t<n:=h3 ai.1;cases hs:a0.set F1 T t v with
   |none=>rw[hs] at he;cases he
   |some qK=>
    rw[hs] at he;have r4:kF μ qK n (tmps.setIfInBounds t v'):=by
     refine⟨by simpa using aI.1,fun x u q=>?_⟩;rw[a0.Q6 hs] at q;by_cases aa:x=t
     ·subst aa;rw[aV rfl] at q;injection q with q;subst q
      have:(tmps.setIfInBounds x v').getD x undef=v':=by
       have:x<tmps.size:=iM cD aI.1;simp[this]
      rw[this];exact ad
     ·rw[aQ aa] at q;have:(tmps.setIfInBounds t v').getD x undef=tmps.getD x undef:=by
       simp[VG (Ne.symm aa)]
      rw[this];exact aI.2 x u q
    obtain⟨a,b⟩:=aP he ae r4 ai.2;exact⟨by simp[a],b⟩
theorem auY{l:Nat}{v:Value}{c:Frame}(ao:fr.roundOf=some l)(hk:fr.kind=.normal)(g8:(Instr.endRound l none).run P w=.ok v a8):
 step P (lone (bP fr tmps ds []) (c::cs) w)=.next (lone (c.finish v) cs a8):=step_lone_go (by simp[stepG,stepG.exec,bP,ao,g8,doReturn,hk])
theorem au0{l:Nat}{v:Value}{c:Frame}(ao:fr.roundOf=some l)(hk:fr.kind=.normal)(g8:(Instr.endRound l (some .ret)).run P w=.ok v a8):
 step P (lone (bP fr tmps ds (.code .ret::k)) (c::cs) w)=.next (lone (c.finish v) cs a8):=step_lone_go (by simp[stepG,stepG.exec,bP,ao,g8,doReturn,hk])
theorem auZ{l id:Nat}{v:Value}{c:Frame}(ao:fr.roundOf=some l)(hk:fr.kind=.normal)(he:exitTo id k=none)(g8:(Instr.endRound l (some (.exit id))).run P w=.ok v a8):
 step P (lone (bP fr tmps ds (.code (.exit id)::k)) (c::cs) w)=.next (lone (c.finish v) cs a8):=step_lone_go (by simp[stepG,stepG.exec,bP,ao,he,g8,doReturn,hk])
theorem auP{l:Nat}(ao:fr.roundOf=some l)(g8:(Instr.beginRound l).run P w=.ok () a8):
 step P (lone (bP fr tmps ds (.beginRound::k)) cs w)=.next (lone (bP fr tmps ds k) cs a8):=step_lone_go (by simp[stepG,stepG.exec,stepG.apply,bP,ao,g8,Frame.finish])
theorem I6(h:b8 P B w0 μ H w){l:Nat}{L:Loc}{r:pB}(a9:μ l=some L)(hm:H.mem.get l=some (.loop r)):
 ∃cv,w.heap[L.r]?=some (.loop cv)/\kf P μ L (.loop r) (.loop cv):=by
 obtain⟨b,o,aL,aG,bt⟩:=h.gC l L a9;rw[hm] at aL;injection aL with aL;subst aL
 cases o with
 |loop cv=>exact⟨cv,aG,bt⟩
 |_=>exact bt.elim
theorem Vq(h:b8 P B w0 μ H w){l:Nat}{L:Loc}{r dq:pB}{wU:Loop}(a9:μ l=some L)(ay:H.bL<=l)(hm:H.mem.get l=some (.loop r))(hu:H.upd l (.loop dq)=some H')(ai:kf P μ L (.loop dq) (.loop wU)):
 b8 P B w0 μ H' {w with heap:=w.heap.setIfInBounds L.r (.loop wU)}/\Step μ μ H H':=
 h.ae8 a9 ay hm (fun _ _ _ _ _ _ q=>by cases q) (fun q=>by cases q) hu (fun _ _ _ _ _ _ q=>by cases q) ai
theorem Ov{E:fZ}(zY:sn P B w0 E.code):xi P B w0 E.aJ:=by
 intro l args H e H' he μ w L cb h a9 aq;unfold fZ.aJ at he;cases hm:H.mem.get l with
 |none=>rw[hm] at he;cases he
 |some b=>
  rw[hm] at he;cases b with
  |loop r=>
   simp only at he;cases aC:(Nat.ble H.bL l&&vA r.n r.params) with
   |false=>rw[aC] at he;cases he
   |true=>
    rw[aC,cd] at he;simp only[gr] at aC;have ay:=h3 aC.1;obtain⟨cv,ks,jA⟩:=I6 h a9 hm;obtain⟨a',bf,bV,dx,fs,fb,bX,iq,km,ir⟩:=jA;cases aw:uQ r.T r.params args with
    |none=>rw[aw] at he;cases he
    |some T=>
     rw[aw] at he;have he:Vv E l r.body (E.code r.assign ⟨T,r.n,[],false,.run,some l⟩ H)=some (e,H'):=he;obtain⟨hlen,cB⟩:=as1 aw aq fb aC.2;cases aF:E.code r.assign ⟨T,r.n,[],false,.run,some l⟩ H with
     |none=>rw[aF] at he;cases he
     |some p=>
      obtain⟨dW,a4,H1⟩:=p;rw[aF] at he;cases dW with
      |normal=>
       have he:Km E l r.body a4 H1=some (e,H'):=he;unfold Km at he;cases wh:H1.mem.get l with
       |none=>rw[wh] at he;cases he
       |some b=>
        rw[wh] at he;cases b with
        |loop dq=>
         simp only at he;cases dB:dq.state with
         |ready=>
          simp only[dB] at he;cases hu:H1.upd l (.loop {dq with state:=.busy}) with
          |none=>rw[hu] at he;cases he
          |some bW=>
           rw[hu] at he;have he:Ou l (E.code r.body a4 bW)=some (e,H'):=he;cases ai:E.code r.body a4 bW with
           |none=>rw[ai] at he;cases he
           |some p=>
            obtain⟨fi,pV,fx⟩:=p;rw[ai] at he;have he:(match Fi fi with|some j=>Dp fx l j|none=>Kn fx fi pV.ds)=some (e,H'):=he
            let py:Array Value:=(cv.params.zip cb.toArray).foldl (fun tmps (x:Tmp×Value)=>tmps.setIfInBounds x.1 x.2) cv.tmps
            have aoN:kF μ T r.n py:=by
             have ax:py=(r.params.zip cb).foldl (fun tmps (x:Tmp×Value)=>tmps.setIfInBounds x.1 x.2) cv.tmps:=by
              show(cv.params.zip cb.toArray).foldl _ _=_;rw[<-Array.foldl_toList,Array.toList_zip,bV]
             rw[ax];exact cB
            refine⟨cv.fn,py,cv.assign,cv.body,?_,?_⟩
            ·have eb:cb.toArray.size=cv.params.size:=by
              have:cv.params.size=cv.params.toList.length:=by simp
              rw[this,bV];simpa using hlen.symm
             have MD:cb.length=cv.params.size:=by simpa using eb
             simp[Instr.yield,Instr.getLoop,getObj,Sem.run,ks,MD,py]
            ·intro caller cs
             let ld:Frame:=Frame.round L.r cv.fn py cv.assign cv.body .normal
             have k2:ld=bP ld py [] [.code cv.assign,.beginRound,.code cv.body]:=rfl
             have bM:il P μ ⟨T,r.n,[],false,.run,some l⟩ ld py [] (caller::cs):=
              ⟨aoN,.nil,rfl,(fun q=>by cases q),(fun l' q=>by injection q with q;subst q;exact⟨L,a9,rfl⟩),(fun q=>by cases q),ir⟩
             have bb:=zY r.assign _ H .normal a4 H1 aF μ w ld py [] (caller::cs) [.beginRound,.code cv.body] (.code r.assign) h bM (.inl rfl);rw[<-dx,<-k2] at bb;obtain⟨fA,bl,t1,d1,gD,jt,s1⟩:=bb;have Mi:gD=caller::cs:=jt.c;subst Mi;have qX:fA l=some L:=jt.jm.ext _ _ a9;obtain⟨wU,aok,aol⟩:=I6 jt.h qX wh;obtain⟨hz,iX,l1,tu,og,AQ,AR⟩:=aol;have oG:H1.bL<=l:=by rw[jt.jm.bL];exact ay
             obtain⟨agi,Ph⟩:=Vq (wU:={wU with state:=.busy}) jt.h qX oG wh hu ⟨rfl,iX,l1,tu,og,AQ,AR⟩;have s2:step P (lone (bP ld t1 d1 [.beginRound,.code cv.body]) (caller::cs) bl)=.next (lone (bP ld t1 d1 [.code cv.body]) (caller::cs) {bl with heap:=bl.heap.setIfInBounds L.r (.loop {wU with state:=.busy})}):=by
              refine auP rfl ?_;have:wU.state=.ready:=hz.trans dB;simp[Instr.beginRound,Instr.getLoop,getObj,setObj,Sem.run,aok,this]
             have cc:=zY r.body a4 bW fi pV fx ai fA _ ld t1 d1 (caller::cs) [] (.code r.body) agi jt.f (.inl rfl);rw[<-fs] at cc;have BS:a4.bR=false:=jt.bR;cases aX:Fi fi with
             |none=>
              rw[aX] at he;have he:Kn fx fi pV.ds=some (e,H'):=he;cases fi with
              |panic bw=>
               cases rS:pV.ds with
               |cons d l=>rw[rS] at he;cases he
               |nil=>
                rw[rS] at he;have he:some (Ending.panicked bw,fx)=some (e,H'):=he;simp only[cn,dr] at he;obtain⟨rfl,rfl⟩:=he;obtain⟨oh,gq,t3,d3,sJ,xC,bo,nR,H6,gN⟩:=cc;have RP:sJ=caller::cs:=by have:=nR.c;rw[BS] at this;exact this
                subst RP;have Zb:d3=[]:=by have:=nR.f.d;rw[rS] at this;cases this;rfl
                subst Zb;exact⟨.panicked xC,gq,oh,nR.h,(jt.jm.trans Ph).trans nR.jm,H6,(s1.trans (.head s2 gN)).trans (.one (step_leave_panicked ⟨rfl,rfl,nR.f.fn⟩))⟩
              |normal=>cases aX
              |ret=>cases aX
              |exit id=>cases aX
              |goto l=>cases he
              |outgrown=>cases he
             |some j=>
             rw[aX] at he;have he:Dp fx l j=some (e,H'):=he;unfold Dp at he;cases x9:fx.mem.get l with
             |none=>rw[x9] at he;cases he
             |some b=>
              rw[x9] at he;cases b with
              |loop fp=>
               simp only at he;cases SV:fx.upd l (.loop {fp with state:=if j.isNone then .ready else .done,pending:=j}) with
               |none=>rw[SV] at he;cases he
               |some kB=>
                rw[SV] at he;have he:some (Ending.returned (.bool j.isNone),kB)=some (e,H'):=he;simp only[cn,dr] at he;obtain⟨rfl,rfl⟩:=he
                --tq round ends
                have fin:∀(oh:bY) (gq:World) (t3:Array Value) (d3:List Deferred) (sJ:List Frame) (todo:List Item),Reached P B w0 fA bW a4 ld (caller::cs) pV fx oh gq t3 d3 sJ->
                 (∀v u9,(Instr.endRound L.r j).run P gq=.ok v u9->step P (lone (bP ld t3 d3 todo) (caller::cs) gq)=.next (lone (caller.finish v) cs u9))->
                 Steps P (lone (bP ld t1 d1 [.code cv.body]) (caller::cs) {bl with heap:=bl.heap.setIfInBounds L.r (.loop {wU with state:=.busy})}) (lone (bP ld t3 d3 todo) sJ gq)->
                 ∃bD a8 bh,b8 P B w0 bh kB a8/\Step μ bh H kB/\AW bh (.returned (.bool j.isNone)) bD/\Steps P (lone ld (caller::cs) w) (lone (aff caller bD) cs a8):=by
                 intro oh gq t3 d3 sJ todo nR a7 gN;have RP:sJ=caller::cs:=by have:=nR.c;rw[BS] at this;exact this
                 subst RP;have BP:oh l=some L:=nR.jm.ext _ _ qX;obtain⟨FQ,SG,SH⟩:=I6 nR.h BP x9;obtain⟨e',fj,pA,Ge,Gf,Ko,Kp⟩:=SH;have R1:fx.bL<=l:=by rw[nR.jm.bL,Ph.bL];exact oG
                 obtain⟨vx,Pg⟩:=Vq (wU:={FQ with state:=if j.isNone then .ready else .done,pending:=j}) nR.h BP R1 x9 SV ⟨rfl,rfl,pA,Ge,Gf,Ko,Kp⟩;refine⟨.returned (.bool j.isNone),_,oh,vx,((jt.jm.trans Ph).trans nR.jm).trans Pg,bj.atom _ rfl,?_⟩;refine(s1.trans (.head s2 gN)).trans (.one (a7 _ _ ?_));simp[Instr.endRound,Instr.getLoop,getObj,setObj,Sem.run,SG]
                cases fi with
                |normal=>
                 injection aX with aX;subst aX
                 obtain⟨oh,gq,t3,d3,sJ,nR,gN⟩:=cc;exact fin oh gq t3 d3 sJ [] nR (fun v u9 q=>auY rfl rfl q) gN
                |ret=>
                 injection aX with aX;subst aX
                 obtain⟨oh,gq,t3,d3,sJ,bo,nR,gN⟩:=cc;exact fin oh gq t3 d3 sJ _ nR (fun v u9 q=>au0 rfl rfl q) gN
                |exit id=>
                 injection aX with aX;subst aX
                 obtain⟨oh,gq,t3,d3,sJ,bo,nR,ex,gN⟩:=cc;exact fin oh gq t3 d3 sJ _ nR (fun v u9 q=>auZ rfl rfl (ex.trans rfl) q) gN
                |goto l=>cases aX
                |panic c=>cases aX
                |outgrown=>cases aX
              |_=>cases he
         |done=>simp only[dB] at he;cases he
         |busy=>simp only[dB] at he;cases he
         |exhausted=>simp only[dB] at he;cases he
        |_=>cases he
      |_=>cases he
  |_=>cases he
end
end
end Go.Cre
namespace Go.Cre
noncomputable section
open Go.RowKit
section
variable {P:Program}{B:Nat->Prop}{w0 w a8:World}{μ fA bh:bY}{H H1 H':ar}{S a4 aH:aZ}{fr:Frame}{tmps:Array Value}{ds:List Deferred}{cs gD:List Frame}{k:List Item}
theorem ac6{f:Operand}{l:Nat}{fn:Fn}{a b:Array Value}(av:dc tmps f=.func fn a b):
 resolve (dc tmps) {callee:=.value f,args:=#[.const (.func (.yield l) #[] #[])],argTypes:=#[]} 0=pure {target:=.fn fn b,args:=a.push (.func (.yield l) #[] #[])}:=by
 have e:#[Operand.const (.func (.yield l) #[] #[])].map (dc tmps)=#[.func (.yield l) #[] #[]]:=by simp[dc]
 simp only[resolve,e,av,Deferred.ofValue];simp
theorem au3{f:Operand}{params:Array Tmp}{assign body:Code}{l:Nat}{mark:List Deferred}{bl b7:World}{fn:Fn}{a b args:Array Value}{g:FuncId}
 (ao:(Instr.enterLoop fr.fn tmps params assign body fr.roundOf).run P w=.ok (l,mark) bl)(av:dc tmps f=.func fn a b)(ak:(invoke (.fn fn b) (a.push (.func (.yield l) #[] #[]))).run P bl=.ok (.enter g args) b7):
 step P (lone (bP fr tmps ds (.code (.rangeFunc f params assign body)::k)) cs w)=.next (lone (Frame.enter P g args .normal) (bP fr tmps (mark++ds) (.inRangeFunc l::k)::cs) b7):=by
 have he:=LJ (fr:=fr) (tmps:=tmps) (ds:=mark++ds) (.inRangeFunc l::k);simp only[bP] at he;refine step_lone_go ?_;simp only[stepG,stepG.exec,bP,Sem.runT_eq,ao,GStep.bare_after,he,ac6 av,pure_bind];simp[stepG.apply,ak]
theorem au4{f:Operand}{params:Array Tmp}{assign body:Code}{l:Nat}{mark:List Deferred}{bl b7:World}{fn:Fn}{a b:Array Value}{v:Value}
 (ao:(Instr.enterLoop fr.fn tmps params assign body fr.roundOf).run P w=.ok (l,mark) bl)(av:dc tmps f=.func fn a b)(ak:(invoke (.fn fn b) (a.push (.func (.yield l) #[] #[]))).run P bl=.ok (.value v) b7):
 step P (lone (bP fr tmps ds (.code (.rangeFunc f params assign body)::k)) cs w)=.next (lone (bP fr tmps (mark++ds) (.endRangeFunc l::k)) cs b7):=by
 have he:=LJ (fr:=fr) (tmps:=tmps) (ds:=mark++ds) (.inRangeFunc l::k);simp only[bP] at he;refine step_lone_go ?_;simp only[stepG,stepG.exec,bP,Sem.runT_eq,ao,GStep.bare_after,he,ac6 av,pure_bind];simp[stepG.apply,ak,Frame.finish]
theorem au2{l:Nat}{jump:Option Code}(ao:(Instr.endLoop l).run P w=.ok jump a8):
 step P (lone (bP fr tmps ds (.endRangeFunc l::k)) cs w)=.next (lone (bP fr tmps ds ((jump.map Item.code).toList++k)) cs a8):=
 step_lone_go (by simp[stepG,stepG.exec,bP,ao])
theorem atp(h:b8 P B w0 μ H w)(aA:il P μ S fr tmps ds cs){d:Nat}{gd:List Deferred}(he:JS S H=some (d,gd,H1)){params:Array Tmp}{assign body:Code}{l:Nat}{bW:ar}
 (aE:H1.new (.loop {state:=.ready,pending:=none,T:=S.T,n:=S.n,params:=params.toList,assign:=assign,body:=body,gP:=d})=some (l,bW)):
 ∃jU b7 mark L,(Instr.enterLoop fr.fn tmps params assign body fr.roundOf).run P w=.ok (L.r,mark) b7/\b8 P B w0 jU bW b7/\Step μ jU H bW/\jU l=some L/\ty jU gd (mark++ds)/\bW.bL<=l:=by
 --tq loop az4,from tq block for tq deferred calls on
 have fin:∀(fA:bY) (bl:World) (mark:List Deferred) (gH:Loc),b8 P B w0 fA H1 bl->Step μ fA H H1->fA d=some gH->ty fA gd (mark++ds)->
  (Instr.enterLoop fr.fn tmps params assign body fr.roundOf).run P w=.ok (bl.heap.size,mark) (bl.alloc (.loop {state:=.ready,pending:=none,fn:=fr.fn,tmps:=tmps,params:=params,assign:=assign,body:=body,defers:=gH.r}))->
  ∃jU b7 mark L,(Instr.enterLoop fr.fn tmps params assign body fr.roundOf).run P w=.ok (L.r,mark) b7/\b8 P B w0 jU bW b7/\Step μ jU H bW/\jU l=some L/\ty jU gd (mark++ds)/\bW.bL<=l:=by
  intro fA bl mark gH ad s1 au cp g8;have k1:=ad.vV ⟨bl.heap.size,0,0⟩
  obtain⟨cW,eE,aq⟩:=ad.made (o:=.loop {state:=.ready,pending:=none,fn:=fr.fn,tmps:=tmps,params:=params,assign:=assign,body:=body,defers:=gH.r}) (L:=⟨bl.heap.size,0,0⟩) aE rfl rfl
   ⟨rfl,rfl,rfl,rfl,rfl,(aA.t.mono s1.ext).mono k1,gH,k1 _ _ au,rfl,aA.fn⟩
  subst aq;refine⟨_,_,mark,⟨bl.heap.size,0,0⟩,g8,cW,s1.trans eE,bY.kw _ _ _,cp.mono k1,?_⟩;rw[eE.bL];exact ad.kZ
 unfold JS at he;cases Aa:S.cr with
 |some l0=>
  rw[Aa] at he;simp only at he;cases hm:H.mem.get l0 with
  |none=>rw[hm] at he;cases he
  |some b=>
   rw[hm] at he;cases b with
   |loop jR=>
    simp only[cn,dr] at he;obtain⟨rfl,rfl,rfl⟩:=he;obtain⟨axH,Ru,my⟩:=aA.Az l0 Aa;obtain⟨aAZ,ks,jA⟩:=I6 h Ru hm;obtain⟨a',bf,bV,dx,fs,fb,bX,iq,km,ir⟩:=jA;refine fin μ w [] bX h (Step.refl _ _) iq aA.d ?_;rw[my];simp[Instr.enterLoop,Instr.getLoop,getObj,newObj,Sem.run,ks,km]
   |_=>cases he
 |none=>
  rw[Aa] at he;simp only at he;cases nv:H.new (.gP (some [])) with
  |none=>rw[nv] at he;cases he
  |some p=>
   obtain⟨r,qH⟩:=p;rw[nv] at he;simp only[cn,dr] at he;obtain⟨rfl,rfl,rfl⟩:=he;obtain⟨cW,eE,aq⟩:=h.made (o:=.deferred (some [])) (L:=⟨w.heap.size,0,0⟩) nv rfl rfl ⟨rfl,.inl rfl⟩;subst aq;refine fin _ _ [{target:=.collected w.heap.size,args:=#[]}] ⟨w.heap.size,0,0⟩ cW eE (bY.kw _ _ _) (.cons _ _ _ _ (.inr ⟨H.an,⟨w.heap.size,0,0⟩,rfl,bY.kw _ _ _,rfl⟩) (aA.d.mono eE.ext)) ?_;rw[aA.uW Aa];simp[Instr.enterLoop,newObj,Sem.run]
theorem ac0{E:fZ}(hO:pC P B w0 E.call):Wx P B w0 E:=by
 intro f params assign body S H e aH H' he μ w fr tmps ds cs k h aA;unfold Em at he;cases dB:JS S H with
 |none=>rw[dB] at he;cases he
 |some p=>
  obtain⟨d,gd,H1⟩:=p;rw[dB] at he;simp only at he;cases aE:H1.new (.loop {state:=.ready,pending:=none,T:=S.T,n:=S.n,params:=params.toList,assign:=assign,body:=body,gP:=d}) with
  |none=>rw[aE] at he;cases he
  |some p=>
   obtain⟨l,bW⟩:=p;rw[aE] at he;simp only at he;obtain⟨jU,b7,mark,L,aL,aG,bt,du,fU,ih⟩:=atp h aA dB aE;have qW:il P jU {S with ds:=gd} fr tmps (mark++ds) cs:=by
    have:=aA.mono bt.ext;exact⟨this.t,fU,this.kind,this.uW,this.Az,this.bg,this.fn⟩
   have axI:Reached P B w0 μ H S fr cs {S with ds:=gd} bW jU b7 tmps (mark++ds) cs:=⟨aG,bt,qW,kh.refl _ _ aA.ui,rfl,rfl⟩;cases eu:a3 S.T bW f with
   |none=>rw[eu] at he;cases he
   |some lf=>
    rw[eu] at he;have k2:=uP aG qW.t (T:=S.T) eu;cases lf with
    |func fn first captured=>
     have he:(match kY P bW fn (first.toList++[.func (.yield l) #[] #[]]) captured.toList with|none=>none|some (g,bO)=>NQ {S with ds:=gd} l (E.body g bO false .run bW))=some (e,aH,H'):=he
     cases g7:kY P bW fn (first.toList++[.func (.yield l) #[] #[]]) captured.toList with
     |none=>rw[g7] at he;cases he
     |some p=>
      obtain⟨g,bO⟩:=p;rw[g7] at he;simp only at he;rcases k2.Ev with⟨b0,b',av,wj,ad,ae⟩|⟨l',bX,rfl,_,rfl,rfl,av⟩
      ·have ap:b3 jU [Value.func (.yield l) #[] #[]] [Value.func (.yield L.r) #[] #[]]:=b3.cons (.yield l L du) (b3.nil _);obtain⟨jf,ba,bd⟩:=QJ (w:=b7) (ad.append ap) ae g7;have WB:(invoke (.fn fn b') (b0.push (.func (.yield L.r) #[] #[]))).run P b7=(callFunc g jf.toArray).run P b7:=by
        rw[<-ba];have ax:(b0.toList++[Value.func (.yield L.r) #[] #[]]).toArray=b0.push (.func (.yield L.r) #[] #[]):=by apply rv;simp
        have aS:b'.toList.toArray=b':=by simp
        rw[ax,aS]
       cases ai:E.body g bO false .run bW with
       |none=>rw[ai] at he;cases he
       |some p=>
        obtain⟨x,bg,fx⟩:=p;rw[ai] at he;have aC:E.call g bO bW=some (x,fx):=by unfold fZ.call;rw[ai]
        --tq aAm end
        have fin:∀(oh:bY) (gq:World) (v:Value),x=.returned v->b8 P B w0 oh fx gq->Step jU oh bW fx->Steps P (lone (bP fr tmps ds (.code (.rangeFunc f params assign body)::k)) cs w) (lone (bP fr tmps (mark++ds) (.endRangeFunc L.r::k)) cs gq)->
         ml P B w0 μ H S fr cs (lone (bP fr tmps ds (.code (.rangeFunc f params assign body)::k)) cs w) k aH H' e:=by
         intro oh gq v aa aD gN hs;subst aa;have he:JR {S with ds:=gd} l fx=some (e,aH,H'):=he;unfold JR at he;cases x9:fx.mem.get l with
         |none=>rw[x9] at he;cases he
         |some b=>
          rw[x9] at he;cases b with
          |loop fp=>
           have BP:oh l=some L:=gN.ext _ _ du;obtain⟨FQ,SG,SH⟩:=I6 aD BP x9;obtain⟨e',fj,pA,Ge,Gf,Ko,Kp⟩:=SH;have R1:fx.bL<=l:=by rw[gN.bL];exact ih
           have z8:fp.state≠.busy/\∃kB,fx.upd l (.loop {fp with state:=.exhausted})=some kB/\Uw {S with ds:=gd} fp.pending kB=some (e,aH,H'):=by
            simp only at he;cases hs:fp.state with
            |busy=>simp only[hs] at he;cases he
            |_=>
             simp only[hs] at he;cases hu:fx.upd l (.loop {fp with state:=.exhausted}) with
             |none=>rw[hu] at he;cases he
             |some kB=>rw[hu] at he;exact⟨(fun q=>by cases q),kB,rfl,he⟩
           obtain⟨z8,kB,hu,he⟩:=z8;obtain⟨vx,Pg⟩:=Vq (wU:={FQ with state:=.exhausted}) aD BP R1 x9 hu ⟨rfl,fj,pA,Ge,Gf,Ko,Kp⟩;have p8:(Instr.endLoop L.r).run P gq=.ok fp.pending {gq with heap:=gq.heap.setIfInBounds L.r (.loop {FQ with state:=.exhausted})}:=by
            have j5:¬FQ.state=.busy:=by rw[e'];exact z8
            simp[Instr.endLoop,Instr.getLoop,getObj,setObj,Sem.run,SG,j5,fj]
           have s4:=hs.trans (.one (au2 p8))
           have Pc:Reached P B w0 μ H S fr cs {S with ds:=gd} kB oh {gq with heap:=gq.heap.setIfInBounds L.r (.loop {FQ with state:=.exhausted})} tmps (mark++ds) cs:=
            ⟨vx,(bt.trans gN).trans Pg,qW.mono gN.ext,kh.refl _ _ aA.ui,rfl,rfl⟩
           cases ZQ:fp.pending with
           |none=>
            rw[ZQ] at he s4;have he:some (Exit.normal,{S with ds:=gd},kB)=some (e,aH,H'):=he;simp only[cn,dr] at he;obtain⟨rfl,rfl,rfl⟩:=he;exact⟨_,_,_,_,_,Pc,s4⟩
           |some c=>
            rw[ZQ] at he s4;cases c with
            |ret=>
             have he:some (Exit.ret,{S with ds:=gd},kB)=some (e,aH,H'):=he;simp only[cn,dr] at he;obtain⟨rfl,rfl,rfl⟩:=he;exact⟨_,_,_,_,_,k,Pc,s4⟩
            |exit id=>
             have he:some (Exit.exit id,{S with ds:=gd},kB)=some (e,aH,H'):=he;simp only[cn,dr] at he;obtain⟨rfl,rfl,rfl⟩:=he;exact⟨_,_,_,_,_,k,Pc,rfl,s4⟩
            |_=>cases he
          |_=>cases he
        rcases hO g bO bW x fx aC jU b7 jf aG bd with⟨v0,v',a8,bh,ax,aS,cl,dS,cx⟩|⟨ax,aS⟩
        ·exact fin bh a8 v0 ax cl dS (.one (au4 aL av (WB.trans aS)))
        ·obtain⟨bD,a8,Yn,⟨bh,b4,bZ,cH⟩,EG,_,ES⟩:=aS (bP fr tmps (mark++ds) (.inRangeFunc L.r::k)::cs);have Zh:=au3 (cs:=cs) (k:=k) (ds:=ds) aL av (WB.trans ax);cases bD with
         |returned v'=>
          cases x with
          |returned v=>
           refine fin bh a8 v rfl b4 bZ ?_;have:=step_leave_returned (cs:=cs) (c:=bP fr tmps (mark++ds) (.inRangeFunc L.r::k)) ES;exact .head Zh (Steps.trans EG (.one this))
          |panicked c=>exact cH.elim
          |outgrown=>exact cH.elim
         |panicked c'=>
          cases x with
          |returned v=>exact cH.elim
          |outgrown=>exact cH.elim
          |panicked c=>
           have he:some (Exit.panic c,{S with ds:=gd},fx)=some (e,aH,H'):=he;simp only[cn,dr] at he;obtain⟨rfl,rfl,rfl⟩:=he;have aom:=step_leave_panicked (cs:=cs) (c:=bP fr tmps (mark++ds) (.inRangeFunc L.r::k)) ES;refine⟨bh,a8,tmps,mark++ds,cs,c',.inRangeFunc L.r::k,⟨b4,bt.trans bZ,qW.mono bZ.ext,kh.refl _ _ aA.ui,rfl,rfl⟩,cH,?_⟩;exact .head Zh (Steps.trans EG (.one aom))
         |outgrown=>cases x<;>exact cH.elim
      ·cases g7
    |_=>cases he
theorem akF{fE:a0 Func}(cI:tF P fE):∀n,∀(B:Nat->Prop) (w0:World),sn P B w0 (vU P fE n).code/\vd P B w0 (vU P fE n).body/\pC P B w0 (vU P fE n).call:=by
 intro n;induction n with
 |zero=>
  intro B w0;exact⟨(fun c S H e aH H' he=>by cases he),(fun f args bg H e gV H' he=>by cases he),(fun f args H e H' he=>by cases he)⟩
 |succ n aP=>
  intro B w0;obtain⟨ad,ae,aD⟩:=aP B w0;exact⟨X3 cI.re ad (fun iB iW _ _=>(aP iB iW).2.2) (fun iB iW _ _=>Ov (aP iB iW).1) (ac0 aD),X0 cI ad ae,QF cI ad ae⟩
theorem akE{fE:a0 Func}(cI:tF P fE)(n:Nat):sn P B w0 (vU P fE n).code/\vd P B w0 (vU P fE n).body/\pC P B w0 (vU P fE n).call:=akF cI n B w0
end
end
end Go.Cre
namespace Go.Cre
noncomputable section
open Go.RowKit
section
variable {P:Program}{w:World}{H:ar}
structure Laid (P:Program) (w:World) (H:ar):Prop where
 bF:H.bF=.leaf
 an:H.an=H.bL
 rows:∀g b,H.mem.get g=some b->b=.dead\/∃cells e f,b=.row cells e false 0 tZ true/\g<H.bL/\w.heap[g]?=some (.cells cells.toArray e f)/\cells.all plain=true/\cells.length<=tZ
def Hy (P:Program)(H:ar):bY:=fun g=>match H.mem.get g with
 |some (.row cells e _ _ _ _)=>some ⟨g,cells.length,P.cellsOf e⟩
 |_=>none
theorem ak2(h:Laid P w H):b8 P (fun k=>k<w.heap.size) w (Hy P H) H w:=by
 have inv:∀g L,Hy P H g=some L->∃cells e f,H.mem.get g=some (.row cells e false 0 tZ true)/\L=⟨g,cells.length,P.cellsOf e⟩/\g<H.bL/\w.heap[g]?=some (.cells cells.toArray e f)/\cells.all plain=true/\cells.length<=tZ:=by
  intro g L q;unfold Hy at q;cases hm:H.mem.get g with
  |none=>rw[hm] at q;cases q
  |some b=>
   rw[hm] at q;rcases h.rows g b hm with rfl|⟨cells,e,f,rfl,ba,bd,cm,cQ⟩
   ·cases q
   ·injection q with q;subst q
    exact⟨cells,e,f,rfl,rfl,ba,bd,cm,cQ⟩
 refine⟨Kept.refl _ _,fun _ hk=>hk,?_,?_,?_,?_,?_,?_,by rw[h.an];exact bU _,?_,?_,?_⟩
 ·intro g L q;obtain⟨cells,e,f,ba,rfl,cm,cQ,dw,e0⟩:=inv g L q;refine⟨_,_,ba,cQ,rfl,by simp,rfl,bU _,fun _=>rfl,fun i v v' x y=>?_,⟨fun off ah _ _=>iM ah e0,fun q=>by cases q⟩⟩;have:v=v':=by
   rw[afL] at y;rw[x] at y;injection y
  subst this;exact qu (rA.1 dw v (et x))
 ·intro x y gH hB eN aa ap ao;obtain⟨_,_,_,_,rfl,_⟩:=inv x gH aa;obtain⟨_,_,_,_,rfl,_⟩:=inv y hB ap;exact absurd ao eN
 ·intro x L aa;obtain⟨_,_,_,_,_,a,_⟩:=inv x L aa;rw[h.an];exact a
 ·intro x L aa _;obtain⟨_,_,_,_,rfl,_⟩:=inv x L aa;rfl
 ·intro x L aa ay _;obtain⟨_,_,_,_,_,a,_⟩:=inv x L aa;omega
 ·intro g c e o f z s _ hm;exact⟨⟨g,c.length,P.cellsOf e⟩,by unfold Hy;rw[hm]⟩
 ·intro x c e f z s hm;rcases h.rows x _ hm with q|⟨_,_,_,q,_⟩<;>cases q
 ·intro f l x aq;rw[h.bF] at aq;cases aq
 ·intro f l aq;rw[h.bF] at aq;cases aq
def isTrue (x:Option (Ending×FrameMode×ar)):Bool:=match x with|some (.returned (.bool b),_,_)=>b|_=>false
theorem aiq{fE:a0 Func}(cI:tF P fE){n:Nat}{f:FuncId}{fn:Func}{c:Code}(aA:P.funcs[f]?=some fn)(ai:fn.body=some c)(h:Laid P w H)(he:isTrue ((vU P fE n).body f [] false .run H)=true):
 Calls P f #[] w fun e a8=>e=.returned (.bool true)/\Below w.heap.size w a8:=by
 cases ao:(vU P fE n).body f [] false .run H with
 |none=>rw[ao] at he;cases he
 |some p=>
  obtain⟨e,bg,H'⟩:=p;rw[ao] at he;have aC:(vU P fE n).call f [] H=some (e,H'):=by unfold fZ.call;rw[ao]
  have hs:=(akE (B:=fun k=>k<w.heap.size) (w0:=w) cI n).2.2 f [] H e H' aC (Hy P H) w [] (ak2 h) (b3.nil _);rcases hs with⟨v,v',a8,bh,_,q,_⟩|⟨_,q⟩
  ·rw[Hn aA ai (cI.num f fn aA (by rw[ai];rfl))] at q;cases q
  ·refine Calls.mono q fun bD a8 ⟨bh,b4,bZ,cH⟩=>?_;cases e with
   |returned v=>
    cases v with
    |bool b=>
     have he:b=true:=he;subst he;cases bD with
     |returned v'=>
      have av:bj bh (.bool true) v':=cH;rw[av.GN];exact⟨rfl,b4.below.below⟩
     |panicked c=>exact cH.elim
     |outgrown=>exact cH.elim
    |_=>cases he
   |panicked c=>cases he
   |outgrown=>cases he
theorem U7{α:Type}:∀{l:List α} {i:Nat} {T dZ:a0 α},y7 l i T=some dZ->∀t,dZ.get t=if i<=t/\t<i+l.length then l[t -i]? else T.get t:=by
 intro l;induction l with
 |nil=>intro i T dZ h t;simp[y7] at h;subst h;rw[aQ (by rw[DG];omega)]
 |cons v l aP=>
  intro i T dZ h t;simp only[y7] at h;cases hs:a0.set F1 T i v with
  |none=>rw[hs] at h;cases h
  |some qK=>
   rw[hs] at h;rw[aP h t,a0.Q6 hs];by_cases ad:i+1<=t/\t<i+1+l.length
   ·rw[aV ad,aV (by rw[kR];omega)];have:t -i=(t -(i+1))+1:=by omega
    rw[this];rfl
   ·rw[aQ ad];by_cases ae:t=i
    ·subst ae;rw[aV rfl,aV (by simp)];simp
    ·rw[aQ ae,aQ (by rw[kR];omega)]
def Et (P:Program):a0 Func:=match y7 P.funcs.toList 0 .leaf with|some t=>t|none=>.leaf
def T5 (P:Program):Bool:=P.funcs.toList.all fun fn=>fn.body.isNone||!(fn.name== "runtime.NumGoroutine")
theorem acC(hm:P.follows .mixedOrders=true)(aE:T5 P=true):tF P (Et P):=by
 refine⟨hm,fun f fn h=>?_,fun f fn aA ai=>?_⟩
 ·unfold Et at h;cases aI:y7 P.funcs.toList 0 .leaf with
  |none=>rw[aI] at h;cases h
  |some t=>
   rw[aI] at h;rw[U7 aI] at h;split at h
   ·simpa using h
   ·cases h
 ·unfold T5 at aE;rw[rA] at aE;have:=aE fn (by simpa using Ku aA);cases kr:fn.body with
  |none=>rw[kr] at ai;cases ai
  |some c=>simpa[kr] using this
def lay (T:a0 fB):List (Nat×TypeId×List Value)->a0 fB
 |[]=>T
 |(g,e,cells)::l=>match a0.put (.row cells e false 0 tZ true) (lay T l) g with
  |some dZ=>dZ
  |none=>lay T l
theorem ap9{T:a0 fB}:∀{l:List (Nat×TypeId×List Value)} {g:Nat} {b:fB},(lay T l).get g=some b->T.get g=some b\/∃e cells,(g,e,cells)∈l/\b=.row cells e false 0 tZ true:=by
 intro l;induction l with
 |nil=>intro g b h;exact .inl h
 |cons x l aP=>
  intro g b h;obtain⟨Yp,e,cells⟩:=x;simp only[lay] at h;cases aw:a0.put (fB.row cells e false 0 tZ true) (lay T l) Yp with
  |none=>
   rw[aw] at h;rcases aP h with q|⟨bD,c',aL,aG⟩
   ·exact .inl q
   ·exact .inr ⟨bD,c',by simp[aL],aG⟩
  |some dZ=>
   rw[aw] at h;simp only at h;rw[a0.get_put aw] at h;by_cases ay:g=Yp
   ·subst ay;rw[aV rfl] at h;injection h with h
    exact .inr ⟨e,cells,by simp,h.symm⟩
   ·rw[aQ ay] at h;rcases aP h with q|⟨bD,c',aL,aG⟩
    ·exact .inl q
    ·exact .inr ⟨bD,c',by simp[aL],aG⟩
def Ye (n d:Nat)(l:List (Nat×TypeId×List Value)):ar:=⟨lay (a0.full .dead d) l,n,.leaf,0,n⟩
theorem ap5{n d:Nat}{l:List (Nat×TypeId×List Value)}(h:∀g e cells,(g,e,cells)∈l->g<n/\(∃f,w.heap[g]?=some (.cells cells.toArray e f))/\cells.all plain=true/\cells.length<=tZ):Laid P w (Ye n d l):=by
 refine⟨rfl,rfl,fun g b ai=>?_⟩;rcases ap9 ai with q|⟨e,cells,aL,aG⟩
 ·rcases a0.Yw fB.dead d g with r|r
  ·rw[r] at q;cases q
  ·rw[r] at q;injection q with q;exact .inl q.symm
 ·obtain⟨ba,⟨f,bd⟩,cm,cQ⟩:=h g e cells aL;exact .inr ⟨cells,e,f,aG,ba,bd,cm,cQ⟩
end
end
end Go.Cre
namespace Go.Cre
noncomputable section
open Go.ChangeShapes
theorem aaF{P:Program}{W:World}{name:String}{k:IntKind}{gz:List Int}{g:Nat}{t:TypeId}(ay:P.globalNamed name=some g)(cD:g<P.globals.size)
 (ao:(((begin P (fun _ _=>0) default).world.heap[g]?).bind Obj.row?).map (·.2)=some t)(hs:W.ShapedOpen P)(aI:Lib.TabIs P W name k gz):∃f,W.heap[g]?=some (.cells (gz.map fun z=>Value.int k z).toArray t f):=by
 obtain⟨⟨zero,lx⟩,ad,ae⟩:=xe.1 ao;simp only at ae;subst ae;obtain⟨cs,a,_⟩:=hs.1 g zero lx cD ad;unfold Lib.TabIs World.var? at aI;rw[ay] at aI;simp only[Wr,a,cn] at aI;subst aI;exact⟨_,a⟩
end
end Go.Cre
namespace Go.Cre
noncomputable section
open Go.RowKit
section
variable {P:Program}{B:Nat->Prop}{w0 w:World}{μ:bY}{H:ar}{S:aZ}{fr:Frame}{tmps:Array Value}{ds:List Deferred}{cs:List Frame}
end
end
end Go.Cre
namespace Go.Cre
noncomputable section
open Go.RowKit
section
variable {P:Program}{B:Nat->Prop}{w0 w a8:World}{μ:bY}{H H0:ar}
theorem b8.grow(h:b8 P B w0 μ H w)(ai:Below w.heap.size w a8):b8 P B w0 μ H a8:=by
 have cD:∀x bX,μ x=some bX->bX.r<w.heap.size:=fun x bX aa=>by
  obtain⟨b',o',_,ah,_⟩:=h.gC x bX aa;rcases hH bX.r w.heap.size with dh|dh
  ·exact dh
  ·rw[tw dh] at ah;cases ah
 refine⟨h.below.trans (.arP ai h.ov),fun k hk=>iM (h.ov k hk) ai.size,fun x L aa=>?_,h.sep,h.lt,h.own,h.new,h.ue,h.kZ,h.rM,h.lK,h.vW⟩;obtain⟨b,o,ad,ae,aD⟩:=h.gC x L aa;exact⟨b,o,ad,by rw[ai.block _ (cD x L aa)];exact ae,aD⟩
def KH(H0:ar)(B:Nat->Prop):Prop:=∀g b,H0.mem.get g=some b->b≠.dead->B g
theorem Laid.gn{B:Nat->Prop}(h:Laid P w0 H0)(ea:KH H0 B)(hk:Kept B w0 w):Laid P w H0:=by
 refine⟨h.bF,h.an,fun g b ay=>?_⟩;rcases h.rows g b ay with q|⟨cells,e,f,aL,aG,bt,du,fU⟩
 ·exact .inl q
 ·exact .inr ⟨cells,e,f,aL,aG,by rw[hk.block g (ea g b ay (by rw[aL];intro q;cases q))];exact bt,du,fU⟩
theorem Laid.yu(h:Laid P w0 H0):KH H0 (fun k=>k<w0.heap.size):=fun g b ay ai=>by
 rcases h.rows g b ay with q|⟨cells,e,f,aL,aG,bt,du,fU⟩
 ·exact absurd q ai
 ·exact(Oy.1 bt).1
end
end
end Go.Cre
namespace Go.Cre
noncomputable section
end
end Go.Cre

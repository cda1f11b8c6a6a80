/- A part of the proof of ResumeBack. -/
import Derived.Test.YtiemfjdacfioeaaGreatDoorCam
import Derived.Lib.MakeNoZero
import Derived.KernelRfl
import Derived.ChangeSame
import Derived.Lib.LaidTab
set_option linter.unusedVariables false
set_option linter.unusedSimpArgs false
namespace Go.Cre
noncomputable section
open Go.RowKit
section
variable {P:Program}{B:Nat->Prop}{w0 w:World}{μ fZ bI:b1}{H H1 H':aB}{S bq aS:bi}{fr:Frame}{tmps:Array Value}{ds:List Deferred}{cs gi:List Frame}{k:List Item}
theorem anN(ay:fr.roundOf=none):step P (lone (cj fr tmps ds []) cs w)=.next (lone {cj fr tmps ds [] with mode:=.returning} cs w):=step_lone_go (by simp[stepG,stepG.exec,cj,ay])
theorem anU(ay:fr.roundOf=none):step P (lone (cj fr tmps ds (.code .ret::k)) cs w)=.next (lone {cj fr tmps ds (.code .ret::k) with mode:=.returning} cs w):=step_lone_go (by simp[stepG,stepG.exec,cj,ay])
theorem amj:∀{l l':List Value},l.all plain=true->b4 μ l l'->l'=l:=by
 intro l;induction l with
 |nil=>intro l' _ h;exact h.lf
 |cons x l aK=>
  intro l' aw h;obtain⟨dT,m,rfl,aa,ae⟩:=h.jC;simp only[r1,fU] at aw;rw[aK aw.2 ae,bF.B9 aw.1 aa]
theorem Xu(fn:Func)(aa:fn.name= "internal/bytealg.MakeNoZero"\/fn.name= "internal/abi.NoEscape")(ae:fn.origin= ""):Extern.findNext fn=none:=by
 have aN:Extern.allNextRows.lookup "internal/bytealg.MakeNoZero"=none:=by kernel_rfl
 have bn:Extern.allNextRows.lookup "internal/abi.NoEscape"=none:=by kernel_rfl
 have cP:Extern.allNextRows.lookup ""=none:=by kernel_rfl
 unfold Extern.findNext;rcases aa with aa|aa<;>rw[aa,ae]<;>simp[aN,bn,cP]
theorem aeP(fn:Func)(aa:fn.name= "internal/bytealg.MakeNoZero"):Extern.find fn=some (Extern.BytealgMakeNoZero.makeNoZero fn.params fn.resultTypes):=by
 have aN:Extern.allGenericRows.lookup "internal/bytealg.MakeNoZero"=none:=by kernel_rfl
 have bn:Extern.allTypedRows.lookup "internal/bytealg.MakeNoZero"=some Extern.BytealgMakeNoZero.makeNoZero:=by kernel_rfl
 unfold Extern.find;rw[aa];simp[aN,bn]
theorem aeQ(fn:Func)(aa:fn.name= "internal/abi.NoEscape"):Extern.find fn=some Extern.AbiNoEscape.same:=by
 have aN:Extern.allGenericRows.lookup "internal/abi.NoEscape"=none:=by kernel_rfl
 have bn:Extern.allTypedRows.lookup "internal/abi.NoEscape"=none:=by kernel_rfl
 have cP:Extern.allRows.lookup "internal/abi.NoEscape"=some Extern.AbiNoEscape.same:=by kernel_rfl
 unfold Extern.find;rw[aa];simp[aN,bn,cP]
theorem TD{f:FuncId}{fn:Func}(aC:P.funcs[f]?=some fn)(au:fn.body=none)(aP:(fn.name== "runtime.NumGoroutine")=false)(aa:Extern.findNext fn=none){x:Array Value->Sem Value}(ae:Extern.find fn=some x){args:Array Value}{v:Value}{bu:World}(U:(x args).run P w=.ok v bu):
 (callFunc f args).run P w=.ok (.value v) bu:=by
 have ze:¬fn.name= "runtime.NumGoroutine":=by simpa using aP
 simp[callFunc,program,Sem.run,aC,au,ze,aa,ae,mark,U]
theorem ael{f:FuncId}{fn:Func}{args cz:List Value}{e:Ending}(aC:P.funcs[f]?=some fn)(au:fn.body=none)(h:ca P B w0 μ H w)(av:b4 μ args cz)(he:AQ P fn f args H=some (e,H')):
 ∃v v' bu bI,e=.returned v/\(callFunc f cz.toArray).run P w=.ok (.value v') bu/\ca P B w0 bI H' bu/\Step μ bI H H'/\bF bI v v':=by
 unfold AQ at he;cases aw:args.all plain with
 |true=>
  rw[aw,cb] at he;obtain rfl:=amj aw av;have hzero:NG P fn H cz fn.resultTypes.toList=some (e,H')->∃v v' bu bI,e=.returned v/\(callFunc f cz.toArray).run P w=.ok (.value v') bu/\ca P B w0 bI H' bu/\Step μ bI H H'/\bF bI v v':=by
   intro he;unfold NG at he;split at he
   ·rename_i n t PA _;cases aH:(decide (fn.name= "internal/bytealg.MakeNoZero")&&decide (fn.origin= "")&&Nat.ble n 1000000) with
    |false=>rw[aH] at he;cases he
    |true=>
     rw[aH,cb] at he;simp only[fU,Gj] at aH;obtain⟨⟨bd,a6⟩,b9⟩:=aH;have b9:=h3 b9;split at he
     ·rename_i el hu;cases k8:Nat.beq (P.cellsOf el) 1 with
      |false=>rw[k8] at he;cases he
      |true=>
       rw[k8,cb] at he;have k8:=eN k8;unfold Ur at he;cases fy:H.od [] el false with
       |none=>rw[fy] at he;cases he
       |some p=>
        obtain⟨id,H1⟩:=p;rw[fy] at he;simp only[cp,dC] at he;obtain⟨rfl,rfl⟩:=he;obtain⟨AK,bt,bw,dh⟩:=Lib.run_makeNoZero w fn.params t el hu n (by omega);have aiS:fn.resultTypes=#[t]:=by
         apply s0;rw[PA]
        obtain⟨m1,m2,rfl⟩:=(h.drew.drew).Qh (o:=.cells AK el) (L:=⟨w.heap.size,AK.size,1⟩) fy rfl (fun f=>⟨rfl,rfl,k8,cB _,(fun q=>by cases q),(fun i v v' q=>by simp at q),⟨fun off _ a b=>by simp at b,fun _=>.inl rfl⟩⟩);refine⟨_,.slice (some ⟨w.heap.size,0,none⟩) n AK.size,_,_,rfl,?_,m1,m2,.pL _ 0 n AK.size ⟨w.heap.size,AK.size,1⟩ (b1.kT _ _ _) bw (by simp)⟩;refine TD aC au (by rw[bd];rfl) (Xu fn (.inl bd) a6) (aeP fn bd) ?_;rw[aiS];exact bt
     ·cases he
   ·cases he
  unfold Us at he;split at he
  ·rename_i v hV;cases D7:plain v with
   |false=>rw[D7] at he;cases he
   |true=>
    rw[D7,cb] at he;simp only[cp,dC] at he;obtain⟨rfl,rfl⟩:=he;exact⟨v,v,w,μ,rfl,Up hV w,h,Step.refl _ _,qD D7⟩
  ·exact hzero he
 |false=>
  rw[aw,dZ] at he;unfold NH at he;split at he
  ·rename_i v;cases aH:(decide (fn.name= "internal/abi.NoEscape")&&decide (fn.origin= "")) with
   |false=>rw[aH] at he;cases he
   |true=>
    rw[aH,cb] at he;simp only[fU,Gj] at aH;obtain⟨bd,a6⟩:=aH;simp only[cp,dC] at he;obtain⟨rfl,rfl⟩:=he;obtain⟨v',l',rfl,aa,ae⟩:=av.jC;obtain rfl:=ae.lf;refine⟨v,v',w,μ,rfl,?_,h,Step.refl _ _,aa⟩;exact TD aC au (by rw[bd];rfl) (Xu fn (.inr bd) a6) (aeQ fn bd) rfl
  ·cases he
theorem bg.UJ{α:Type}(a:α):∀(d n:Nat),(bg.full a d).get n=none\/(bg.full a d).get n=some a:=by
 intro d;induction d with
 |zero=>intro n;exact .inl rfl
 |succ d aK=>
  intro n;cases n with
  |zero=>exact .inr rfl
  |succ m=>
   have e:bg.full a (d+1)=.node (some a) (bg.full a d) (bg.full a d):=rfl;rw[e,bg.ra];split<;>exact aK _
theorem abe:∀{l:List Value} {i:Nat} {T eS:bg Value},nV l i T=some eS->∀t,eS.get t=if i<=t/\t<i+l.length then l[t -i]? else T.get t:=by
 intro l;induction l with
 |nil=>intro i T eS h t;simp[nV] at h;subst h;rw[ap (by rw[yt];omega)]
 |cons v l aK=>
  intro i T eS h t;simp only[nV] at h;cases af:bg.set L5 T i v with
  |none=>rw[af] at h;cases h
  |some CS=>
   rw[af] at h;rw[aK h t,bg.UL af];by_cases aa:i+1<=t/\t<i+1+l.length
   ·rw[aE aa,aE (by simp;omega)];have:t -i=(t -(i+1))+1:=by omega
    rw[this];rfl
   ·rw[ap aa];by_cases ae:t=i
    ·subst ae;rw[aE rfl,aE (by simp)];simp
    ·rw[ap ae,ap (by simp;omega)]
theorem ae2{args cz:List Value}{n:Nat}{T:bg Value}(av:b4 μ args cz)(dy:nV args 0 (blank n)=some T):lu μ T n (cz.toArray++Array.replicate (n -cz.toArray.size) undef):=by
 refine⟨by simp;omega,fun t v h=>?_⟩;rw[abe dy] at h;by_cases aD:t<args.length
 ·rw[aE ⟨cB _,by omega⟩,Au] at h;have KV:t<cz.length:=by have:=av.1;omega
  have:(cz.toArray++Array.replicate (n -cz.toArray.size) undef).getD t undef=cz[t]:=by
   simp[RR,KV]
  rw[this];exact av.2 t v _ h (de KV)
 ·rw[ap (by omega)] at h;have hu:v=undef:=by
   rcases bg.UJ undef (NK n) t with q|q
   ·unfold blank at h;rw[q] at h;cases h
   ·unfold blank at h;rw[q] at h;injection h with h;exact h.symm
  subst hu;have KV:¬t<cz.length:=by have:=av.1;omega
  have:(cz.toArray++Array.replicate (n -cz.toArray.size) undef).getD t undef=undef:=by
   simp only[Array.getD_eq_getD_getElem?,RR,Sp,KV,Ej,Array.getElem?_replicate];split<;>rfl
  rw[this];exact bF.undef μ
theorem Tc{E:gQ}(DS:r0 P B w0 E.code)(Bm:uR P B w0 E.body){f:FuncId}{fn:Func}{c:Code}{args cz:List Value}{b2:Bool}{bJ gd:FrameMode}{e:Ending}
 (aC:P.funcs[f]?=some fn)(au:fn.body=some c)(he:FX P E fn c b2 bJ H (nV args 0 (blank fn.ntmps))=some (e,gd,H'))
 (h:ca P B w0 μ H w)(av:b4 μ args cz)(cs:List Frame)(gV:b2=true->∃dU rest,cs=dU::rest/\pd μ bJ dU.mode):
 ∃bI bu bG nD cT,ca P B w0 bI H' bu/\Step μ bI H H'/\Fp bI e bG/\Steps P (lone (Frame.enter P f cz.toArray (if b2 then .deferred else .normal)) cs w) (lone nD cT bu)/\
  nD.kind=(if b2 then .deferred else .normal)/\nD.fn=f/\nD.going P bu bG/\kV b2 cs cT/\(b2=true->∃bt rest,cT=bt::rest/\pd bI gd bt.mode):=by
 cases dy:nV args 0 (blank fn.ntmps) with
 |none=>rw[dy] at he;cases he
 |some T=>
  rw[dy] at he;have he:wI P E fn (E.code c ⟨T,fn.ntmps,[],b2,bJ,none⟩ H)=some (e,gd,H'):=he
  let tD:Frame:=Frame.enter P f cz.toArray (if b2 then .deferred else .normal)
  have lX:tD=cj tD (cz.toArray++Array.replicate (fn.ntmps -cz.toArray.size) undef) [] [.code c]:=by
   simp[tD,Frame.enter,cj,aC,au]
  have fQ:iO μ ⟨T,fn.ntmps,[],b2,bJ,none⟩ tD (cz.toArray++Array.replicate (fn.ntmps -cz.toArray.size) undef) [] cs:=
   ⟨ae2 av dy,.nil,rfl,fun _=>rfl,(fun l q=>by cases q),gV⟩
  cases ay:E.code c ⟨T,fn.ntmps,[],b2,bJ,none⟩ H with
  |none=>rw[ay] at he;cases he
  |some p=>
   obtain⟨x,bq,H1⟩:=p;rw[ay] at he;have aH:=DS c _ H x bq H1 ay μ w tD _ [] cs [] (.code c) h fQ (.inl rfl);rw[<-lX] at aH;have pw:tD.roundOf=none:=rfl
   --E5 frame leaves
   have fin:∀(u jT:FrameMode) (fZ:b1) (e3:World) (t1:Array Value) (d1:List Deferred) (gi:List Frame) (bp:List Item),Reached P B w0 μ H ⟨T,fn.ntmps,[],b2,bJ,none⟩ tD cs bq H1 fZ e3 t1 d1 gi->pd fZ u jT->u≠.run->
    Steps P (lone tD cs w) (lone {cj tD t1 d1 bp with mode:=jT} gi e3)->r9 bq.bJ (iI P E fn bq.T bq.ds u H1)=some (e,gd,H')->
    ∃bI bu bG nD cT,ca P B w0 bI H' bu/\Step μ bI H H'/\Fp bI e bG/\Steps P (lone tD cs w) (lone nD cT bu)/\
     nD.kind=(if b2 then .deferred else .normal)/\nD.fn=f/\nD.going P bu bG/\kV b2 cs cT/\(b2=true->∃bt rest,cT=bt::rest/\pd bI gd bt.mode):=by
    intro u jT fZ e3 t1 d1 gi bp lD hm hu di y';cases sD:iI P E fn bq.T bq.ds u H1 with
    |none=>rw[sD] at y';cases y'
    |some q=>
     obtain⟨bn,cN⟩:=q;rw[sD] at y';have y':some (bn,bq.bJ,cN)=some (e,gd,H'):=y';simp only[cp,dC] at y';obtain⟨rfl,rfl,rfl⟩:=y';obtain⟨rZ,iD,bG,AW,g1,g2,g3,g4,g5,g6,g7⟩:=aep Bm bq.ds u H1 bn cN sD fZ e3 {cj tD t1 d1 bp with mode:=jT} gi lD.h lD.f.t lD.f.d hm hu aC;refine⟨rZ,iD,bG,AW,gi,g1,lD.gE.trans g2,g3,di.trans g4,g5,g6,g7,lD.c,fun aZ=>?_⟩;obtain⟨bt,rest,a,b⟩:=lD.f.bJ (lD.b2.trans aZ);exact⟨bt,rest,a,b.mono g2.ext⟩
   cases x with
   |normal=>
    obtain⟨fZ,e3,t1,d1,gi,lD,di⟩:=aH;exact fin .returning .returning fZ e3 t1 d1 gi [] lD trivial (fun q=>by cases q) (di.trans (.one (anN pw))) he
   |ret=>
    obtain⟨fZ,e3,t1,d1,gi,bp,lD,di⟩:=aH;exact fin .returning .returning fZ e3 t1 d1 gi (.code .ret::bp) lD trivial (fun q=>by cases q) (di.trans (.one (anU pw))) he
   |panic bU=>
    obtain⟨fZ,e3,t1,d1,gi,AG,bp,lD,OG,di⟩:=aH;exact fin (.panicking bU) (.panicking AG) fZ e3 t1 d1 gi bp lD OG (fun q=>by cases q) di he
   |exit id=>cases he
   |goto l=>cases he
   |outgrown=>cases he
structure td (P:Program) (fb:bg Func):Prop where
 rH:P.follows .mixedOrders=true
 fb:∀f fn,fb.get f=some fn->P.funcs[f]?=some fn
 num:∀(f:Nat) fn,P.funcs[f]?=some fn->fn.body.isSome=true->(fn.name== "runtime.NumGoroutine")=false
theorem Dv{f:FuncId}{fn:Func}{c:Code}(aC:P.funcs[f]?=some fn)(au:fn.body=some c)(aP:(fn.name== "runtime.NumGoroutine")=false)(args:Array Value)(w:World):(callFunc f args).run P w=.ok (.enter f args) w:=by
 have ze:¬fn.name= "runtime.NumGoroutine":=by simpa using aP
 simp[callFunc,program,Sem.run,aC,au,ze]
theorem Ug{fb:bg Func}(dD:td P fb){E:gQ}(DS:r0 P B w0 E.code)(Bm:uR P B w0 E.body):uR P B w0 (p7 P fb E):=by
 intro f args bJ H e gd H' he μ w cz h av;unfold p7 at he;cases qh:fb.get f with
 |none=>rw[qh] at he;cases he
 |some fn=>
  rw[qh] at he;have aC:=dD.fb f fn qh;cases au:fn.body with
  |none=>simp only[au] at he;cases he
  |some c=>
   simp only[au] at he;refine⟨Dv aC au (dD.num f fn aC (by rw[au];rfl)) _ w,fun dU cs hm=>?_⟩;obtain⟨bI,bu,bG,nD,cT,g1,g2,g3,g4,g5,g6,g7,g8,g9⟩:=Tc DS Bm aC au he h av (dU::cs) (fun _=>⟨dU,cs,rfl,hm⟩);obtain⟨bt,rest,m,bd,a6⟩:=g8;injection bd with bd b9;subst bd;subst b9
   obtain⟨bw,auc,cI,ei⟩:=g9 rfl;rw[a6] at cI;injection cI with cI gN;subst cI;subst gN
   subst a6;exact⟨bI,bu,bG,m,nD,g1,g2,g3,ei,g4,g5,g7⟩
theorem NA{fb:bg Func}(dD:td P fb){E:gQ}(DS:r0 P B w0 E.code)(Bm:uR P B w0 E.body):qM P B w0 (gQ.call ⟨E.code,p7 P fb E⟩):=by
 intro f args H e H' he μ w cz h av;unfold gQ.call at he;cases j6:p7 P fb E f args false .run H with
 |none=>simp only[j6] at he;cases he
 |some p=>
  obtain⟨aN,Rs,H1⟩:=p;simp only[j6,cp,dC] at he;obtain⟨rfl,rfl⟩:=he;unfold p7 at j6;cases qh:fb.get f with
  |none=>rw[qh] at j6;cases j6
  |some fn=>
   rw[qh] at j6;have aC:=dD.fb f fn qh;cases au:fn.body with
   |none=>
    simp only[au] at j6;have j6:r9 .run (AQ P fn f args H)=some (aN,Rs,H1):=j6;cases U:AQ P fn f args H with
    |none=>rw[U] at j6;cases j6
    |some q=>
     obtain⟨bn,cN⟩:=q;rw[U] at j6;have j6:some (bn,FrameMode.run,cN)=some (aN,Rs,H1):=j6;simp only[cp,dC] at j6;obtain⟨rfl,rfl,rfl⟩:=j6;exact .inl (ael aC au h av U)
   |some c=>
    simp only[au] at j6;refine .inr ⟨Dv aC au (dD.num f fn aC (by rw[au];rfl)) _ w,fun cs=>?_⟩;obtain⟨bI,bu,bG,nD,cT,g1,g2,g3,g4,g5,g6,g7,g8,g9⟩:=Tc DS Bm aC au j6 h av cs (fun q=>by cases q);have gV:cT=cs:=g8;subst gV;refine⟨bG,bu,nD,⟨bI,g1,g2,g3⟩,?_,g6,?_⟩
    ·cases bG with
     |returned v=>exact g4
     |panicked bU=>exact g4
     |outgrown=>cases aN<;>exact g3.elim
    ·cases bG with
     |returned v=>obtain⟨a,b,c⟩:=g7;exact⟨a,b,g5,c⟩
     |panicked bU=>exact g7
     |outgrown=>trivial
end
end
end Go.Cre
namespace Go.Cre
noncomputable section
open Go.RowKit
section
variable {P:Program}{B:Nat->Prop}{w0 w bu:World}{μ fZ bI:b1}{H H1 H':aB}{S bq aS:bi}{fr:Frame}{tmps:Array Value}{ds:List Deferred}{cs gi:List Frame}{k:List Item}
theorem Md{E:gQ}(DS:r0 P B w0 E.code):yz P B w0 E.aR:=by
 intro l args H e H' he;cases he
end
end
end Go.Cre
namespace Go.Cre
noncomputable section
open Go.RowKit
section
variable {P:Program}{B:Nat->Prop}{w0 w bu:World}{μ fZ bI:b1}{H H1 H':aB}{S bq aS:bi}{fr:Frame}{tmps:Array Value}{ds:List Deferred}{cs gi:List Frame}{k:List Item}
theorem aeJ{fb:bg Func}(dD:td P fb):∀n,∀(B:Nat->Prop) (w0:World),r0 P B w0 (vp P fb n).code/\uR P B w0 (vp P fb n).body/\qM P B w0 (vp P fb n).call:=by
 intro n;induction n with
 |zero=>
  intro B w0;exact⟨(fun c S H e aS H' he=>by cases he),(fun f args bJ H e gd H' he=>by cases he),(fun f args H e H' he=>by cases he)⟩
 |succ n aK=>
  intro B w0;obtain⟨aa,ae,aG⟩:=aK B w0;exact⟨Uj dD.rH aa (fun hY iE _ _=>(aK hY iE).2.2) (fun hY iE _ _=>Md (aK hY iE).1),Ug dD aa ae,NA dD aa ae⟩
theorem aeI{fb:bg Func}(dD:td P fb)(n:Nat):r0 P B w0 (vp P fb n).code/\uR P B w0 (vp P fb n).body/\qM P B w0 (vp P fb n).call:=aeJ dD n B w0
end
end
end Go.Cre
namespace Go.Cre
noncomputable section
open Go.RowKit
section
variable {P:Program}{w:World}{H:aB}
structure Laid (P:Program) (w:World) (H:aB):Prop where
 bM:H.bM=.leaf
 ak:H.ak=H.bZ
 rows:∀g b,H.mem.get g=some b->b=.dead\/∃cells e f,b=.row cells e false 0 sl true/\g<H.bZ/\w.heap[g]?=some (.cells cells.toArray e f)/\cells.all plain=true/\cells.length<=sl
def GD (P:Program)(H:aB):b1:=fun g=>match H.mem.get g with
 |some (.row cells e _ _ _ _)=>some ⟨g,cells.length,P.cellsOf e⟩
 |_=>none
theorem aeU(h:Laid P w H):ca P (fun k=>k<w.heap.size) w (GD P H) H w:=by
 have inv:∀g L,GD P H g=some L->∃cells e f,H.mem.get g=some (.row cells e false 0 sl true)/\L=⟨g,cells.length,P.cellsOf e⟩/\g<H.bZ/\w.heap[g]?=some (.cells cells.toArray e f)/\cells.all plain=true/\cells.length<=sl:=by
  intro g L q;unfold GD at q;cases hm:H.mem.get g with
  |none=>rw[hm] at q;cases q
  |some b=>
   rw[hm] at q;rcases h.rows g b hm with rfl|⟨cells,e,f,rfl,bo,a2,a3,a4⟩
   ·cases q
   ·injection q with q;subst q
    exact⟨cells,e,f,rfl,rfl,bo,a2,a3,a4⟩
 refine⟨Kept.refl _ _,fun _ aU=>aU,?_,?_,?_,?_,?_,?_,by rw[h.ak];exact cZ _,?_,?_,?_⟩
 ·intro g L q;obtain⟨cells,e,f,bo,rfl,a3,a4,a5,dc⟩:=inv g L q;refine⟨_,_,bo,a4,rfl,by simp,rfl,cZ _,fun _=>rfl,fun i v v' x y=>?_,⟨fun off ar _ _=>yv ar dc,fun q=>by cases q⟩⟩;have:v=v':=by
   rw[aaE] at y;rw[x] at y;injection y
  subst this;exact qD (s8.1 a5 v (cd x))
 ·intro x y eM gr fl U ai ay;obtain⟨_,_,_,_,rfl,_⟩:=inv x eM U;obtain⟨_,_,_,_,rfl,_⟩:=inv y gr ai;exact absurd ay fl
 ·intro x L U;obtain⟨_,_,_,_,_,a,_⟩:=inv x L U;rw[h.ak];exact a
 ·intro x L U _;obtain⟨_,_,_,_,rfl,_⟩:=inv x L U;rfl
 ·intro x L U aq _;obtain⟨_,_,_,_,_,a,_⟩:=inv x L U;omega
 ·intro g c e o f z s _ hm;exact⟨⟨g,c.length,P.cellsOf e⟩,by unfold GD;rw[hm]⟩
 ·intro x c e f z s hm;rcases h.rows x _ hm with q|⟨_,_,_,q,_⟩<;>cases q
 ·intro f l x av;rw[h.bM] at av;cases av
 ·intro f l av;rw[h.bM] at av;cases av
def isTrue (x:Option (Ending×FrameMode×aB)):Bool:=match x with|some (.returned (.bool b),_,_)=>b|_=>false
theorem acE{fb:bg Func}(dD:td P fb){n:Nat}{f:FuncId}{fn:Func}{c:Code}(aC:P.funcs[f]?=some fn)(au:fn.body=some c)(h:Laid P w H)(he:isTrue ((vp P fb n).body f [] false .run H)=true):
 Calls P f #[] w fun e bu=>e=.returned (.bool true)/\Below w.heap.size w bu:=by
 cases ay:(vp P fb n).body f [] false .run H with
 |none=>rw[ay] at he;cases he
 |some p=>
  obtain⟨e,bJ,H'⟩:=p;rw[ay] at he;have aH:(vp P fb n).call f [] H=some (e,H'):=by unfold gQ.call;rw[ay]
  have af:=(aeI (B:=fun k=>k<w.heap.size) (w0:=w) dD n).2.2 f [] H e H' aH (GD P H) w [] (aeU h) (b4.nil _);rcases af with⟨v,v',bu,bI,_,q,_⟩|⟨_,q⟩
  ·rw[Dv aC au (dD.num f fn aC (by rw[au];rfl))] at q;cases q
  ·refine Calls.mono q fun bG bu ⟨bI,g1,g2,g3⟩=>?_;cases e with
   |returned v=>
    cases v with
    |bool b=>
     have he:b=true:=he;subst he;cases bG with
     |returned v'=>
      have az:bF bI (.bool true) v':=g3;rw[az.FY];exact⟨rfl,g1.below.below⟩
     |panicked c=>exact g3.elim
     |outgrown=>exact g3.elim
    |_=>cases he
   |panicked c=>cases he
   |outgrown=>cases he
theorem Rp{α:Type}:∀{l:List α} {i:Nat} {T eS:bg α},x7 l i T=some eS->∀t,eS.get t=if i<=t/\t<i+l.length then l[t -i]? else T.get t:=by
 intro l;induction l with
 |nil=>intro i T eS h t;simp[x7] at h;subst h;rw[ap (by rw[yt];omega)]
 |cons v l aK=>
  intro i T eS h t;simp only[x7] at h;cases af:bg.set L5 T i v with
  |none=>rw[af] at h;cases h
  |some CS=>
   rw[af] at h;rw[aK h t,bg.UL af];by_cases aa:i+1<=t/\t<i+1+l.length
   ·rw[aE aa,aE (by rw[iQ];omega)];have:t -i=(t -(i+1))+1:=by omega
    rw[this];rfl
   ·rw[ap aa];by_cases ae:t=i
    ·subst ae;rw[aE rfl,aE (by simp)];simp
    ·rw[ap ae,ap (by rw[iQ];omega)]
def DF (P:Program):bg Func:=match x7 P.funcs.toList 0 .leaf with|some t=>t|none=>.leaf
def Qx (P:Program):Bool:=P.funcs.toList.all fun fn=>fn.body.isNone||!(fn.name== "runtime.NumGoroutine")
theorem Yc(hm:P.follows .mixedOrders=true)(aP:Qx P=true):td P (DF P):=by
 refine⟨hm,fun f fn h=>?_,fun f fn aC au=>?_⟩
 ·unfold DF at h;cases aD:x7 P.funcs.toList 0 .leaf with
  |none=>rw[aD] at h;cases h
  |some t=>
   rw[aD] at h;rw[Rp aD] at h;split at h
   ·simpa using h
   ·cases h
 ·unfold Qx at aP;rw[s8] at aP;have:=aP fn (by simpa using Jb aC);cases rh:fn.body with
  |none=>rw[rh] at au;cases au
  |some c=>simpa[rh] using this
def lay (T:bg ff):List (Nat×TypeId×List Value)->bg ff
 |[]=>T
 |(g,e,cells)::l=>match bg.put (.row cells e false 0 sl true) (lay T l) g with
  |some eS=>eS
  |none=>lay T l
theorem akd{T:bg ff}:∀{l:List (Nat×TypeId×List Value)} {g:Nat} {b:ff},(lay T l).get g=some b->T.get g=some b\/∃e cells,(g,e,cells)∈l/\b=.row cells e false 0 sl true:=by
 intro l;induction l with
 |nil=>intro g b h;exact .inl h
 |cons x l aK=>
  intro g b h;obtain⟨Kb,e,cells⟩:=x;simp only[lay] at h;cases aw:bg.put (ff.row cells e false 0 sl true) (lay T l) Kb with
  |none=>
   rw[aw] at h;rcases aK h with q|⟨bG,ch,bd,a6⟩
   ·exact .inl q
   ·exact .inr ⟨bG,ch,by simp[bd],a6⟩
  |some eS=>
   rw[aw] at h;simp only at h;rw[bg.get_put aw] at h;by_cases aq:g=Kb
   ·subst aq;rw[aE rfl] at h;injection h with h
    exact .inr ⟨e,cells,by simp,h.symm⟩
   ·rw[ap aq] at h;rcases aK h with q|⟨bG,ch,bd,a6⟩
    ·exact .inl q
    ·exact .inr ⟨bG,ch,by simp[bd],a6⟩
def Uw (n d:Nat)(l:List (Nat×TypeId×List Value)):aB:=⟨lay (bg.full .dead d) l,n,.leaf,0,n⟩
theorem aj'{n d:Nat}{l:List (Nat×TypeId×List Value)}(h:∀g e cells,(g,e,cells)∈l->g<n/\(∃f,w.heap[g]?=some (.cells cells.toArray e f))/\cells.all plain=true/\cells.length<=sl):Laid P w (Uw n d l):=by
 refine⟨rfl,rfl,fun g b au=>?_⟩;rcases akd au with q|⟨e,cells,bd,a6⟩
 ·rcases bg.UJ ff.dead d g with r|r
  ·rw[r] at q;cases q
  ·rw[r] at q;injection q with q;exact .inl q.symm
 ·obtain⟨bo,⟨f,a2⟩,a3,a4⟩:=h g e cells bd;exact .inr ⟨cells,e,f,a6,bo,a2,a3,a4⟩
end
end
end Go.Cre
namespace Go.Cre
noncomputable section
open Go.ChangeShapes
theorem Qc{P:Program}{W:World}{name:String}{k:IntKind}{gf:List Int}{g:Nat}{t:TypeId}(aq:P.globalNamed name=some g)(c4:g<P.globals.size)
 (ay:(((begin P (fun _ _=>0) default).world.heap[g]?).bind Obj.row?).map (·.2)=some t)(af:W.ShapedOpen P)(aD:Lib.TabIs P W name k gf):∃f,W.heap[g]?=some (.cells (gf.map fun z=>Value.int k z).toArray t f):=by
 obtain⟨⟨zero,fo⟩,aa,ae⟩:=aaM.1 ay;simp only at ae;subst ae;obtain⟨cs,a,_⟩:=af.1 g zero fo c4 aa;unfold Lib.TabIs World.var? at aD;rw[aq] at aD;simp only[St,a,cp] at aD;subst aD;exact⟨_,a⟩
end
end Go.Cre
namespace Go.Cre
noncomputable section
open Go.RowKit
section
variable {P:Program}{B:Nat->Prop}{w0 w:World}{μ:b1}{H:aB}{S:bi}{fr:Frame}{tmps:Array Value}{ds:List Deferred}{cs:List Frame}
end
end
end Go.Cre
namespace Go.Cre
noncomputable section
open Go.RowKit
def iG (P:Program)(fb:bg Func)(E:gQ)(f:FuncId)(args:List Value)(b2:Bool)(bJ:FrameMode)(H:aB):Option Value->Option (Ending×FrameMode×aB)
 |some v=>(match args,b2 with
  |[],false=>some (.returned v,bJ,H)
  |_,_=>p7 P fb E f args b2 bJ H)
 |none=>p7 P fb E f args b2 bJ H
section
variable {P:Program}{B:Nat->Prop}{w0 w bu:World}{μ:b1}{H H0:aB}
theorem ca.grow(h:ca P B w0 μ H w)(au:Below w.heap.size w bu):ca P B w0 μ H bu:=by
 have c4:∀x bQ,μ x=some bQ->bQ.r<w.heap.size:=fun x bQ U=>by
  obtain⟨b',o',_,ar,_⟩:=h.fP x bQ U;rcases kY bQ.r w.heap.size with dE|dE
  ·exact dE
  ·rw[s3 dE] at ar;cases ar
 refine⟨h.below.trans (.ak8 au h.nW),fun k aU=>yv (h.nW k aU) au.size,fun x L U=>?_,h.sep,h.lt,h.own,h.new,h.tE,h.kM,h.q9,h.k3,h.vq⟩;obtain⟨b,o,aa,ae,aG⟩:=h.fP x L U;exact⟨b,o,aa,by rw[au.block _ (c4 x L U)];exact ae,aG⟩
def Jk(H0:aB)(B:Nat->Prop):Prop:=∀g b,H0.mem.get g=some b->b≠.dead->B g
theorem Laid.eF{B:Nat->Prop}(h:Laid P w0 H0)(cY:Jk H0 B)(aU:Kept B w0 w):Laid P w H0:=by
 refine⟨h.bM,h.ak,fun g b aq=>?_⟩;rcases h.rows g b aq with q|⟨cells,e,f,bd,a6,b9,fN,kd⟩
 ·exact .inl q
 ·exact .inr ⟨cells,e,f,bd,a6,by rw[aU.block g (cY g b aq (by rw[bd];intro q;cases q))];exact b9,fN,kd⟩
theorem Laid.ld(h:Laid P w0 H0):Jk H0 (fun k=>k<w0.heap.size):=fun g b aq au=>by
 rcases h.rows g b aq with q|⟨cells,e,f,bd,a6,b9,fN,kd⟩
 ·exact absurd q au
 ·exact(RT.1 b9).1
def aZ:Code->Code
 |.seq a _=>a
 |c=>c
def Cp:Code->Code
 |.seq _ b=>b
 |_=>.skip
end
end
end Go.Cre
namespace Go.Cre
noncomputable section
end
end Go.Cre
namespace Go.Cre
noncomputable section
open Go.RowKit
open Classical
structure dI (P:Program) where
 ok:(Nat->Prop)->World->Prop
 up:∀B w0 hY iE,ok B w0->(∀k,B k->hY k)->Kept B w0 iE->ok hY iE
def lz (c:Code)(S:bi)(H:aB)(r:Exit×bi×aB):Code->bi->aB->Option (Exit×bi×aB):=fun ch aS H'=>if ch=c/\aS=S/\H'=H then some r else none
def nz (f:FuncId)(args:List Value)(H:aB)(r:Ending×aB):eH:=fun cW cz H'=>if cW=f/\cz=args/\H'=H then some r else none
def ef{P:Program}(Q:dI P)(c:Code)(S:bi)(H:aB)(e:Exit)(aS:bi)(H':aB):Prop:=∀B w0,Q.ok B w0->r0 P B w0 (lz c S H (e,aS,H'))
def lL{P:Program}(Q:dI P)(f:FuncId)(args:List Value)(H:aB)(e:Ending)(H':aB):Prop:=∀B w0,Q.ok B w0->qM P B w0 (nz f args H (e,H'))
def tu {P:Program}(Q:dI P)(pick:Code->bi->aB->Option (Exit×bi×aB)):Code->bi->aB->Option (Exit×bi×aB):=fun c S H=>match pick c S H with
 |some (e,aS,H')=>if ef Q c S H e aS H' then some (e,aS,H') else none
 |none=>none
def il {P:Program}(Q:dI P)(pick:eH):eH:=fun f args H=>match pick f args H with
 |some (e,H')=>if lL Q f args H e H' then some (e,H') else none
 |none=>none
section
variable {P:Program}{Q:dI P}{B:Nat->Prop}{w0:World}
theorem Dg(pick:Code->bi->aB->Option (Exit×bi×aB))(fR:Q.ok B w0):r0 P B w0 (tu Q pick):=by
 intro c S H e aS H' he;unfold tu at he;split at he
 ·split at he
  ·rename_i ey;simp only[cp,dC] at he;obtain⟨rfl,rfl,rfl⟩:=he;exact ey B w0 fR c S H _ _ _ (by unfold lz;rw[aE ⟨rfl,rfl,rfl⟩])
  ·cases he
 ·cases he
theorem M4(pick:eH)(fR:Q.ok B w0):qM P B w0 (il Q pick):=by
 intro f args H e H' he;unfold il at he;split at he
 ·split at he
  ·rename_i ey;simp only[cp,dC] at he;obtain⟨rfl,rfl⟩:=he;exact ey B w0 fR f args H _ _ (by unfold nz;rw[aE ⟨rfl,rfl,rfl⟩])
  ·cases he
 ·cases he
def g' {P:Program}(Q:dI P)(fu:Code->bi->aB->Option (Exit×bi×aB))(aV:eH):gQ:=
 ⟨tu Q fu,fun f args b2 bJ H=>if b2=true then none else match il Q aV f args H with|some (e,H')=>some (e,bJ,H')|none=>none⟩
theorem Jg(fu:Code->bi->aB->Option (Exit×bi×aB))(aV:eH):(g' Q fu aV).call=il Q aV:=by
 funext f args H
 unfold gQ.call g';simp only[Fl,Ej];cases il Q aV f args H with
 |none=>rfl
 |some p=>rfl
theorem ef.xW(oV:P.follows .mixedOrders=true){c:Code}{S aS:bi}{H H':aB}{e:Exit}(fu:Code->bi->aB->Option (Exit×bi×aB))(aV:eH)(h:J4 P (g' Q fu aV) c S H=some (e,aS,H')):ef Q c S H e aS H':=by
 intro B w0 fR;have k4:∀(hY:Nat->Prop) (iE:World),(∀k,B k->hY k)->Kept B w0 iE->Q.ok hY iE:=fun hY iE a b=>Q.up B w0 hY iE fR a b;have aH:∀(hY:Nat->Prop) (iE:World),Q.ok hY iE->r0 P hY iE (g' Q fu aV).code:=fun hY iE q=>Dg fu q;have aU:∀(hY:Nat->Prop) (iE:World),Q.ok hY iE->qM P hY iE (g' Q fu aV).call:=fun hY iE q=>by rw[Jg];exact M4 aV q
 have af:=Uj (P:=P) (B:=B) (w0:=w0) (E:=g' Q fu aV) oV (aH B w0 fR) (fun hY iE a b=>aU hY iE (k4 hY iE a b)) (fun hY iE a b=>Md (aH hY iE (k4 hY iE a b)));intro bt bq H1 aN Sy Jh he;unfold lz at he;split at he
 ·rename_i q;obtain⟨rfl,rfl,rfl⟩:=q;simp only[cp,dC] at he;obtain⟨rfl,rfl,rfl⟩:=he;exact af _ _ _ _ _ _ h
 ·cases he
theorem acH{c:Code}{S aS:bi}{H H':aB}{e:Exit}(h:ef Q c S H e aS H'){fu:Code->bi->aB->Option (Exit×bi×aB)}(aw:fu c S H=some (e,aS,H')):tu Q fu c S H=some (e,aS,H'):=by
 unfold tu;rw[aw];simp only;rw[aE h]
theorem F'{f:FuncId}{args:List Value}{H H':aB}{e:Ending}(h:lL Q f args H e H'){aV:eH}(aw:aV f args H=some (e,H')):il Q aV f args H=some (e,H'):=by
 unfold il;rw[aw];simp only;rw[aE h]
def hN:Code->bi->aB->Option (Exit×bi×aB):=fun _ _ _=>none
def mz:eH:=fun _ _ _=>none
theorem ef.skip(oV:P.follows .mixedOrders=true){S:bi}{H:aB}:ef Q .skip S H .normal S H:=ef.xW oV hN mz rfl
theorem ef.ret(oV:P.follows .mixedOrders=true){S:bi}{H:aB}:ef Q .ret S H .ret S H:=ef.xW oV hN mz rfl
theorem ef.exit(oV:P.follows .mixedOrders=true){S:bi}{H:aB}{id:Nat}:ef Q (.exit id) S H (.exit id) S H:=ef.xW oV hN mz rfl
theorem ef.mk{c:Code}{S aS:bi}{H H':aB}{e:Exit}(h:∀B w0,Q.ok B w0->∀μ w fr tmps ds cs k it,ca P B w0 μ H w->iO μ S fr tmps ds cs->yx c it->mM P B w0 μ H S fr cs (lone (cj fr tmps ds (it::k)) cs w) k aS H' e):ef Q c S H e aS H':=by
 intro B w0 fR bt bq H1 aN Sy Jh he;unfold lz at he;split at he
 ·rename_i q;obtain⟨rfl,rfl,rfl⟩:=q;simp only[cp,dC] at he;obtain⟨rfl,rfl,rfl⟩:=he;exact h B w0 fR
 ·cases he
theorem ef.use{c:Code}{S aS:bi}{H H':aB}{e:Exit}(h:ef Q c S H e aS H')(fR:Q.ok B w0){μ:b1}{w:World}{fr:Frame}{tmps:Array Value}{ds:List Deferred}{cs:List Frame}{k:List Item}{it:Item}(pr:ca P B w0 μ H w)(fQ:iO μ S fr tmps ds cs)(af:yx c it):
 mM P B w0 μ H S fr cs (lone (cj fr tmps ds (it::k)) cs w) k aS H' e:=h B w0 fR c S H e aS H' (by unfold lz;rw[aE ⟨rfl,rfl,rfl⟩]) μ w fr tmps ds cs k it pr fQ af
theorem yx.plain{c:Code}{it:Item}(h:yx c it)(aP:∀ch,c≠.loop ch):it=.code c:=by
 rcases h with q|⟨ch,q,_⟩
 ·exact q
 ·exact absurd q (aP ch)
theorem ef.seq{a b:Code}{S bq gv:bi}{H H1 cN:aB}{e:Exit}(aa:ef Q a S H .normal bq H1)(ae:ef Q b bq H1 e gv cN):ef Q (.seq a b) S H e gv cN:=by
 refine .mk fun B w0 fR μ w fr tmps ds cs k it pr fQ af=>?_;obtain rfl:=af.plain (fun _ q=>by cases q);exact((aa.use (k:=.code b::k) fR pr fQ (.inl rfl)).bind fun fZ e3 t1 d1 gi lD=>ae.use fR lD.h lD.f (.inl rfl)).steps (.one Ri)
theorem ef.IK{a b:Code}{S bq:bi}{H H1:aB}{e:Exit}(aa:ef Q a S H e bq H1)(aP:e≠.normal):ef Q (.seq a b) S H e bq H1:=by
 refine .mk fun B w0 fR μ w fr tmps ds cs k it pr fQ af=>?_;obtain rfl:=af.plain (fun _ q=>by cases q);exact((aa.use (k:=.code b::k) fR pr fQ (.inl rfl)).steps (.one Ri)).pass (fun id _=>rfl) aP
theorem yx.loop{c:Code}{it:Item}(h:yx (.loop c) it){fr:Frame}{tmps:Array Value}{ds:List Deferred}{cs:List Frame}{k:List Item}{w:World}:step P (lone (cj fr tmps ds (it::k)) cs w)=.next (lone (cj fr tmps ds (.code c::.inLoop c::k)) cs w):=by
 rcases h with rfl|⟨ch,q,rfl⟩
 ·exact Zd
 ·injection q with q;subst q;exact Zc
theorem ef.akp{c:Code}{S bq gv:bi}{H H1 cN:aB}{e:Exit}(aa:ef Q c S H .normal bq H1)(ae:ef Q (.loop c) bq H1 e gv cN):ef Q (.loop c) S H e gv cN:=by
 refine .mk fun B w0 fR μ w fr tmps ds cs k it pr fQ af=>?_;exact((aa.use (k:=.inLoop c::k) fR pr fQ (.inl rfl)).bind fun fZ e3 t1 d1 gi lD=>ae.use fR lD.h lD.f (.inr ⟨c,rfl,rfl⟩)).steps (.one af.loop)
theorem ef.H5{c:Code}{S bq:bi}{H H1:aB}{e:Exit}(aa:ef Q c S H e bq H1)(aP:e≠.normal):ef Q (.loop c) S H e bq H1:=by
 refine .mk fun B w0 fR μ w fr tmps ds cs k it pr fQ af=>?_;exact((aa.use (k:=.inLoop c::k) fR pr fQ (.inl rfl)).steps (.one af.loop)).pass (fun id _=>rfl) aP
theorem Df{c:Code}{S aS:bi}{H H':aB}{e:Exit}(h:ef Q c S H e aS H'):tu Q (lz c S H (e,aS,H')) c S H=some (e,aS,H'):=acH h (by unfold lz;rw[aE ⟨rfl,rfl,rfl⟩])
theorem ef.cond(oV:P.follows .mixedOrders=true){x:Operand}{a b:Code}{t:Bool}{S aS:bi}{H H':aB}{e:Exit}(U:bk S.T H x=some (.bool t))(h:ef Q (if t=true then a else b) S H e aS H'):ef Q (.cond x a b) S H e aS H':=by
 cases t with
 |true=>
  refine ef.xW oV (lz a S H (e,aS,H')) mz ?_;show JS _ S H a b (bk S.T H x)=_;rw[U];exact Df h
 |false=>
  refine ef.xW oV (lz b S H (e,aS,H')) mz ?_;show JS _ S H a b (bk S.T H x)=_;rw[U];exact Df h
theorem ef.block(oV:P.follows .mixedOrders=true){id:Nat}{c:Code}{S aS:bi}{H H':aB}{e:Exit}(h:ef Q c S H e aS H'):ef Q (.block id c) S H (match e with|.exit j=>if j=id then .normal else .exit j|e=>e) aS H':=by
 refine ef.xW oV (lz c S H (e,aS,H')) mz ?_;show M3 id (tu Q (lz c S H (e,aS,H')) c S H)=_;rw[Df h];cases e with
 |exit j=>
  show(bif Nat.beq j id then some (Exit.normal,aS,H') else some (Exit.exit j,aS,H'))=_;by_cases ba:j=id
  ·subst ba;simp
  ·have:Nat.beq j id=false:=by
    cases q:Nat.beq j id
    ·rfl
    ·exact absurd (eN q) ba
   rw[this,dZ];simp[ba]
 |_=>rfl
theorem aav(fu:Code->bi->aB->Option (Exit×bi×aB))(aV:eH):uR P B w0 (g' Q fu aV).body:=by
 intro f args bJ H e gd H' he;unfold g' at he;simp at he
theorem lL.cH{fb:bg Func}(dD:td P fb){f:FuncId}{args:List Value}{H H':aB}{e:Ending}{bJ:FrameMode}(fu:Code->bi->aB->Option (Exit×bi×aB))(aV:eH)(h:p7 P fb (g' Q fu aV) f args false .run H=some (e,bJ,H')):lL Q f args H e H':=by
 intro B w0 fR f1 u7 H1 aN Jh he;unfold nz at he;split at he
 ·rename_i q;obtain⟨rfl,rfl,rfl⟩:=q;simp only[cp,dC] at he;obtain⟨rfl,rfl⟩:=he;exact NA (E:=g' Q fu aV) dD (Dg fu fR) (aav fu aV) f1 u7 H1 _ _ (by unfold gQ.call;simp only;rw[h])
 ·cases he
theorem lL.run{fb:bg Func}(dD:td P fb){f:FuncId}{fn:Func}{c:Code}{args:List Value}{T:bg Value}{H H1 H':aB}{bq:bi}{x:Exit}{e:Ending}{bJ:FrameMode}(aC:fb.get f=some fn)(au:fn.body=some c)(a':nV args 0 (blank fn.ntmps)=some T)
 (aH:ef Q c ⟨T,fn.ntmps,[],false,.run,none⟩ H x bq H1)(he:wI P (g' Q (lz c ⟨T,fn.ntmps,[],false,.run,none⟩ H (x,bq,H1)) mz) fn (some (x,bq,H1))=some (e,bJ,H')):lL Q f args H e H':=by
 refine lL.cH dD (lz c ⟨T,fn.ntmps,[],false,.run,none⟩ H (x,bq,H1)) mz (bJ:=bJ) ?_;unfold p7;rw[aC];show FW P _ f fn args false .run H fn.body=_;rw[au];show FX P _ fn c false .run H (nV args 0 (blank fn.ntmps))=_;rw[a'];show wI P _ fn (tu Q _ c ⟨T,fn.ntmps,[],false,.run,none⟩ H)=_;rw[Df aH];exact he
end
end
end Go.Cre
namespace Go.Cre
noncomputable section
open Go.RowKit
def bg.has{α:Type}(T:bg α)(n:Nat):Prop:=∀t,t<n->∃v,T.get t=some v
end
end Go.Cre

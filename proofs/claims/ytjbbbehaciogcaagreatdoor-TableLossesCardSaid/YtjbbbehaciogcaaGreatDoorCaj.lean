/- A part of the proof of TableLosses. -/
import Derived.Test.YtjbbbehaciogcaaGreatDoorCai
import Derived.Laws.Sem
set_option linter.unusedVariables false
set_option linter.unusedSimpArgs false
namespace Go.Cre
noncomputable section
open Go.RowKit
open Classical
section
variable {P:Program}{B:Nat->Prop}{w0 w:World}{μ jT:bY}{H H0 H' H1:ar}{S jd aH a4:aZ}{fr:Frame}{tmps:Array Value}{ds:List Deferred}{cs jG:List Frame}{call:eI}{aJ:hl}
variable {ops:Array Oper}{bw cV C K G:Nat}{D:Nat->Bool}{A:Nat->Nat}{i:Nat}{o:Oper}{k:List Item}{rest:List Nat}
def mm(listed:Array Bool):Nat->Bool:=fun i=>listed.getD i false
theorem VM{listed:Array Bool}{i:Nat}(ak:i<listed.size):mm (listed.setIfInBounds i true)=nN (mm listed) i:=by
 funext j
 unfold mm nN;by_cases h:j=i
 ·subst h;simp[ak]
 ·rw[aQ h];simp[VG (Ne.symm h)]
theorem atB{listed:Array Bool}(eb:listed.size=ops.size){i:Nat}(ak:i∈Region.ready .any ops listed):∃o,ops[i]?=some o/\i<ops.size/\mm listed i=false/\∀j,(Oper.iU o).testBit j=true->mm listed j=true:=by
 unfold Region.ready at ak;simp only[List.mem_filter,List.mem_range,gr,sm] at ak;obtain⟨ad,ae,aD⟩:=ak;have cD:i<listed.size:=by omega
 refine⟨ops[i],by simp[ad],ad,by unfold mm;simp[cD] at ae ⊢;exact ae,fun j aX=>?_⟩;unfold Oper.iU at aX;obtain⟨e,he,ai,rfl⟩:=XS.1 aX;simp only[AT ad,KV,Ws,afk] at aD;have:=aD e (by simpa using he);rw[ai] at this;simpa[mm] using this
theorem atC(hs:vw ops.toList bw){listed:Array Bool}(eb:listed.size=ops.size):∀m,m<ops.size->mm listed m=false->Region.ready .any ops listed≠[]:=by
 intro m;induction m using Nat.strongRecOn with
 |ind m aP=>
  intro hm au;by_cases ew:∀j,(Oper.iU ops[m]).testBit j=true->mm listed j=true
  ·intro St;have:m∈Region.ready .any ops listed:=by
    unfold Region.ready;simp only[List.mem_filter,List.mem_range,gr,sm];refine⟨hm,?_,?_⟩
    ·have cD:m<listed.size:=by omega
     unfold mm at au;simp[cD] at au ⊢;exact au
    ·simp only[AT hm,KV,Ws,afk];intro e he;cases ai:Region.binds .any e with
     |false=>rfl
     |true=>
      have:=ew e.on (XS.2 ⟨e,by simpa using he,ai,rfl⟩);simpa[mm] using this
   rw[St] at this;cases this
  ·simp only[Classical.not_forall] at ew;obtain⟨j,aX,anh⟩:=ew;have cD:=hs.down m ops[m] j (by simp[hm]) aX
   exact aP j cD (by omega) (by cases h:mm listed j with
    |false=>rfl
    |true=>exact absurd h anh)
theorem aiE{listed:Array Bool}(h:listed.toList.count false=0):∀i,i<listed.size->mm listed i=true:=fun i ak=>by
 have aR:=List.count_eq_zero.1 h;unfold mm;cases ai:listed.getD i false with
 |true=>rfl
 |false=>
  exfalso;refine aR ?_;have:listed[i]=false:=by simpa[ak] using ai
  rw[<-this];simp
theorem count_set{listed:Array Bool}{i n:Nat}(ak:i<listed.size)(aA:mm listed i=false)(aC:listed.toList.count false=n+1):(listed.setIfInBounds i true).toList.count false=n:=by
 have ai:listed[i]=false:=by unfold mm at aA;simpa[ak] using aA
 have:(listed.setIfInBounds i true).toList=listed.toList.set i true:=by simp
 rw[this,List.count_set (by simpa using ak)];simp[ai,aC]
theorem alb(ew:∀i,C.testBit i=true->D i=true)(t:Nat):free ops.toList C D t=true:=zO.2 fun⟨j,_,a,b,_,_⟩=>by
 rw[ew j a] at b;cases b
theorem ajL(hO:pC P B w0 call)(nA:xi P B w0 aJ)(hs:vw ops.toList bw)(lL:∀(i:Nat) o,ops.toList[i]?=some o->cV.testBit i=false->Ah o.op=false){c8:dJ}:
 ∀(fuel u4:Nat) (listed:Array Bool) (a1:List jo) (C K G:Nat) (S:aZ) (H:ar) (A:Nat->Nat) (μ:bY) (w:World) (tmps:Array Value) (ds:List Deferred) (cs:List Frame),
 Inv P B w0 call aJ ops.toList bw cV jT H0 jd fr jG C K G S H μ w tmps ds cs (mm listed) A->oR ops.toList bw cV C K G a1=true->dM P call aJ ops.toList a1 S H=some c8->
 (a1=[]\/∃i rest,a1=.bE i::rest)->listed.size=ops.size->listed.toList.count false=fuel->
 k' P B w0 jT H0 jd fr jG (lone (bP fr tmps ds (.inRegion ops (Region.linearise.go .any ops fuel u4 listed [])::k)) cs w) k c8:=by
 intro fuel;induction fuel with
 |zero=>
  intro u4 listed a1 C K G S H A μ w tmps ds cs aB aw he fv eb Mh;have ew:=aiE Mh;have hM:∀i,i<ops.size->C.testBit i=true:=fun i ak=>aB.sub i (ew i (by omega));rcases fv with rfl|⟨i,rest,rfl⟩
  ·have he:some (dJ.ok S H)=some c8:=he;injection he with he;subst he
   refine⟨μ,w,tmps,ds,cs,aB.h,aB.jm,?_,aB.Bm,aB.bR,aB.cr,.one UX⟩;refine aB.f.conv rfl rfl rfl rfl rfl fun t v q=>wM.2 ⟨alb (fun i ak=>?_) t,q⟩;obtain⟨o,ah⟩:=aB.GO i ak;have:i<ops.toList.length:=(ff.1 ah).1;exact ew i (by simp at this;omega)
  ·exfalso;simp only[oR,gr] at aw;have aA:=aw.1.1.1.1.1;unfold fits at aA;rw[lT] at aA;cases ah:ops.toList[i]? with
   |none=>rw[ah] at aA;simp at aA
   |some o=>
    have:i<ops.toList.length:=(ff.1 ah).1;have:=hM i (by simpa using this);simp[this] at aA
 |succ fuel aP=>
  intro u4 listed a1 C K G S H A μ w tmps ds cs aB aw he fv eb Mh;have dX:Region.ready .any ops listed≠[]:=by
   have:0<listed.toList.count false:=by omega
   rw[List.count_pos_iff] at this;obtain⟨m,hm,e⟩:=List.mem_iff_getElem.1 this;have Sm:m<listed.size:=by simpa using hm
   refine atC hs eb m (by omega) ?_;unfold mm;simp at e;simp[Sm,e]
  simp only[Region.linearise.go]
  change k' P B w0 jT H0 jd fr jG (lone (bP fr tmps ds (.inRegion ops (match(Region.ready .any ops listed)[u4 % (Region.ready .any ops listed).length]? with
   |some i=>Region.linearise.go .any ops fuel (u4 / (Region.ready .any ops listed).length) (listed.setIfInBounds i true) [i]
   |none=>[].reverse)::k)) cs w) k c8
  cases ak:(Region.ready .any ops listed)[u4 % (Region.ready .any ops listed).length]? with
  |none=>
   exfalso;have ZR:0<(Region.ready .any ops listed).length:=V7.2 dX;have cD:=gA u4 ZR;rw[ey cD] at ak;cases ak
  |some i=>
   simp only
   rw[linearise_go_acc,List.reverse_singleton,afS];obtain⟨o,ah,cD,EA,qe⟩:=atB eb (et ak);have oI:ops.toList[i]?=some o:=by simpa using ah
   have Ms:i<listed.size:=by omega
   have MD:(listed.setIfInBounds i true).size=ops.size:=by simpa using eb
   have p4:∀j,C.testBit j=true->K.testBit j=true\/G.testBit j=true:=fun j aX=>by
    have r3:sub C (Nat.lor K G)=true:=by
     rcases fv with rfl|⟨aao,rest,rfl⟩
     ·simp only[oR,gr] at aw;exact aw.2
     ·simp only[oR,gr] at aw;exact aw.1.1.2
    have:=U0 r3 aX;rw[AG,zf] at this;exact this
   cases hM:C.testBit i with
   |true=>
    obtain⟨bh,a8,g5,fg,cG,dB,HR⟩:=atF (k:=k) (rest:=Region.linearise.go .any ops fuel (u4 / (Region.ready .any ops listed).length) (listed.setIfInBounds i true) []) hO nA hs aB p4 hM EA ah qe;rw[<-VM Ms] at HR;exact(aP _ _ a1 C K G S H A bh a8 g5 fg cG HR aw he fv MD (count_set Ms EA Mh)).steps dB
   |false=>
    rcases fv with rfl|⟨aao,rest,rfl⟩
    ·exfalso;simp only[oR,gr] at aw;have:=apD aw.1 i (by simpa using cD);rw[hM] at this;cases this
    ·have ma:=aw;simp only[oR,gr] at aw;obtain⟨⟨⟨⟨⟨dg,gp⟩,lu⟩,yQ⟩,yR⟩,Au⟩:=aw;have anN:i=aao:=by
      have:=ar6 lu i o oI;rw[j2] at this;rcases this with q|q|q
      ·rw[hM] at q;cases q
      ·exact q
      ·exfalso;have aoK:sub (Oper.iU o) C=true:=by
        unfold sub;have:Nat.land (Oper.iU o) C=Oper.iU o:=by
         apply af1
         intro j;rw[N5];cases aX:(Oper.iU o).testBit j with
         |false=>rfl
         |true=>rw[aB.sub j (qe j aX)];rfl
        rw[this];simp
       rw[aoK] at q;cases q
     subst anN;rw[lT,oI] at yR;simp only[gr] at yR;have he:Option.rec (motive:=fun _=>Option dJ) none (fun o=>lG ops.toList (dM P call aJ ops.toList rest) (one P call aJ ops.toList S H o)) (nth ops.toList i)=some c8:=he;rw[lT,oI] at he;have he:lG ops.toList (dM P call aJ ops.toList rest) (one P call aJ ops.toList S H o)=some c8:=he;cases nw:one P call aJ ops.toList S H o with
     |none=>rw[nw] at he;cases he
     |some dq=>
      rw[nw] at he;cases dq with
      |gx c a4 H1=>
       have he:some (dJ.gx c (a4.gone (wJ ops.toList)) H1)=some c8:=he;injection he with he;subst he
       exact atE hO nA hs aB ah qe nw
      |ok a4 H1=>
       have he:dM P call aJ ops.toList rest a4 H1=some c8:=he;obtain⟨bh,a8,g5,fg,cG,dB,HR⟩:=atD (k:=k) (rest:=Region.linearise.go .any ops fuel (u4 / (Region.ready .any ops listed).length) (listed.setIfInBounds i true) []) hO nA hs aB hM ah qe nw rfl (fun j aX=>U0 yR.1 aX) yR.2;rw[<-VM Ms] at HR;obtain⟨sd,w5,oW,aH,H',qF,aL,aG,bt,du⟩:=Xl hs lL rest _ _ a4 H1 A HR Au he;exact(aP _ _ sd w5 _ oW aH H' qF bh a8 g5 fg cG aL aG bt du MD (count_set Ms EA Mh)).steps dB
theorem akg(pg:P.follows .mixedOrders=true)(hO:pC P B w0 call)(nA:xi P B w0 aJ)(h:b8 P B w0 μ H w)(aA:il P μ S fr tmps ds cs){c8:dJ}{id:Nat}(he:xS P call aJ ops.toList S H=some c8):
 k' P B w0 μ H S fr cs (lone (bP fr tmps ds (.code (.region id ops true)::k)) cs w) k c8:=by
 unfold xS at he;cases au:Ef ops.toList with
 |false=>rw[au] at he;cases he
 |true=>
  rw[au,cd] at he;unfold Ef at au;simp only[gr] at au;obtain⟨EI,v8⟩:=au;have hs:=auK EI;have lL:∀(i:Nat) o,ops.toList[i]?=some o->(zx ops.toList 0).testBit i=false->Ah o.op=false:=fun i o ah ai=>by
   cases aF:Ah o.op with
   |false=>rfl
   |true=>
    have:=agD (k:=0) ah aF;rw[j2,ai] at this;cases this
  refine k'.steps (.one auS) ?_;simp only[Region.schedule,pg,Bool.true_or,MQ];have aM:∀i,Nat.testBit 0 i=false:=fun i=>Nat.zero_testBit i;have uf:∀i,mm (Array.replicate ops.size false) i=false:=fun i=>by
   unfold mm;by_cases ak:i<ops.size
   ·simp[ak]
   ·simp[ak]
  have aB:Inv P B w0 call aJ ops.toList (Ea ops.toList ops.toList 0) (zx ops.toList 0) μ H S fr cs 0 0 0 S H μ {w with drawn:=w.drawn+1} tmps ds cs (mm (Array.replicate ops.size false)) (fun _=>0):=by
   refine⟨h.drawn _,?_,Step.refl _ _,kh.refl _ _ aA.ui,rfl,rfl,fun i ak=>?_,fun i ak=>?_,fun i o j ak=>?_,fun i o j ak=>?_,fun i ak=>?_,fun i o ak=>?_,fun i j FF er ak=>?_⟩
   ·exact aA.conv rfl rfl rfl rfl rfl fun t v q=>(wM.1 q).2
   ·rw[uf] at ak;cases ak
   ·rw[aM] at ak;cases ak
   ·rw[uf] at ak;cases ak
   ·rw[aM] at ak;cases ak
   ·rw[aM] at ak;cases ak
   ·rw[aM] at ak;cases ak
   ·rw[aM] at ak;cases ak
  obtain⟨sd,w5,oW,aH,H',qF,aL,aG,bt,du⟩:=Xl hs lL (JM ops.toList) _ _ S H _ aB v8 he;unfold Region.linearise;exact ajL hO nA hs lL ops.size _ _ sd w5 _ oW aH H' qF μ _ tmps ds cs aL aG bt du (by simp) (by simp)
end
end
end Go.Cre
namespace Go.Cre
noncomputable section
open Go.RowKit
open Classical
section
variable {P:Program}{B:Nat->Prop}{w0 w:World}{μ jT:bY}{H H0 H' H1:ar}{S jd aH a4:aZ}{fr:Frame}{tmps:Array Value}{ds:List Deferred}{cs jG:List Frame}{call:eI}{aJ:hl}
variable {ops:Array Oper}{l:List Oper}{bw cV C K G:Nat}{D:Nat->Bool}{A:Nat->Nat}{i:Nat}{o:Oper}{k:List Item}{rest:List Nat}
end
end
end Go.Cre
namespace Go.Cre
noncomputable section
open Go.RowKit
open Classical
section
variable {P:Program}{call:eI}{aJ:hl}
end
end
end Go.Cre
namespace Go.Cre
noncomputable section
open Go.RowKit
open Classical
def afq(P:Program)(B:Nat->Prop)(w0:World)(call:eI):Prop:=∀(iB:Nat->Prop) (iW:World),(∀k,B k->iB k)->Kept B w0 iW->pC P iB iW call
def agk(P:Program)(B:Nat->Prop)(w0:World)(aJ:hl):Prop:=∀(iB:Nat->Prop) (iW:World),(∀k,B k->iB k)->Kept B w0 iW->xi P iB iW aJ
section
variable {P:Program}{B iB:Nat->Prop}{w0 w a8:World}{μ bh jT:bY}{H H0 H' H1:ar}{S jd aH a4:aZ}{fr:Frame}{tmps:Array Value}{ds:List Deferred}{cs jG:List Frame}{call:eI}{aJ:hl}
variable {ops:Array Oper}{l:List Oper}{bw cV C K G:Nat}{D:Nat->Bool}{A:Nat->Nat}{i:Nat}{o:Oper}{k:List Item}{rest:List Nat}{ws a m:Nat}{es:List (Nat×Value×Value)}
end
end
end Go.Cre
namespace Go.Cre
noncomputable section
open Go.RowKit
open Classical
section
variable {P:Program}{ops:Array Oper}{L:Lit}{l:List Oper}{bw cV:Nat}{key el:TypeId}{Cv:TypeDesc}{es:List (Nat×Value×Value)}{a:Nat}{agd:aZ}{i:Nat}{o:Oper}
end
section
variable {P:Program}{B:Nat->Prop}{w0 aBi:World}{jT:bY}{H0 bW axC:ar}{jd agd gk:aZ}{fr:Frame}{jG:List Frame}{call:eI}{aJ:hl}
variable {ops:Array Oper}{L:Lit}{l:List Oper}{bw cV:Nat}{key el:TypeId}{Cv:TypeDesc}{es:List (Nat×Value×Value)}{a bd:Nat}{k:List Item}
end
end
end Go.Cre
namespace Go.Cre
noncomputable section
open Go.RowKit
structure Reached (P:Program) (B:Nat->Prop) (w0:World) (μ:bY) (H:ar) (S:aZ) (fr:Frame) (cs:List Frame) (aH:aZ) (H':ar) (bh:bY) (a8:World) (g5:Array Value) (fg:List Deferred) (cG:List Frame):Prop where
 h:b8 P B w0 bh H' a8
 jm:Step μ bh H H'
 f:il P bh aH fr g5 fg cG
 c:kh S.bR cs cG
 bR:aH.bR=S.bR
 cr:aH.cr=S.cr
def ml(P:Program)(B:Nat->Prop)(w0:World)(μ:bY)(H:ar)(S:aZ)(fr:Frame)(cs:List Frame)(m:Machine)(k:List Item)(aH:aZ)(H':ar):Exit->Prop
 |.normal=>∃bh a8 g5 fg cG,Reached P B w0 μ H S fr cs aH H' bh a8 g5 fg cG/\Steps P m (lone (bP fr g5 fg k) cG a8)
 |.exit id=>∃bh a8 g5 fg cG lQ,Reached P B w0 μ H S fr cs aH H' bh a8 g5 fg cG/\exitTo id lQ=exitTo id k/\Steps P m (lone (bP fr g5 fg (.code (.exit id)::lQ)) cG a8)
 |.ret=>∃bh a8 g5 fg cG lQ,Reached P B w0 μ H S fr cs aH H' bh a8 g5 fg cG/\Steps P m (lone (bP fr g5 fg (.code .ret::lQ)) cG a8)
 |.panic chain=>∃bh a8 g5 fg cG GY lQ,Reached P B w0 μ H S fr cs aH H' bh a8 g5 fg cG/\iY bh chain GY/\Steps P m (lone {bP fr g5 fg lQ with mode:=.panicking GY} cG a8)
 |_=>False
def zu(c:Code)(it:Item):Prop:=it=.code c\/∃c',c=.loop c'/\it=.inLoop c'
def sn(P:Program)(B:Nat->Prop)(w0:World)(code:Code->aZ->ar->Option (Exit×aZ×ar)):Prop:=
 ∀c S H e aH H',code c S H=some (e,aH,H')->∀μ w fr tmps ds cs k it,b8 P B w0 μ H w->il P μ S fr tmps ds cs->zu c it->ml P B w0 μ H S fr cs (lone (bP fr tmps ds (it::k)) cs w) k aH H' e
section
variable {P:Program}{B:Nat->Prop}{w0 w:World}{μ fA:bY}{H H1 H':ar}{S a4 aH:aZ}{fr:Frame}{tmps:Array Value}{ds:List Deferred}{cs gD:List Frame}{m m':Machine}{k aW:List Item}{e:Exit}
theorem Reached.trans{jU:bY}{gk:aZ}{bW:ar}{bl b7:World}{t1 t2:Array Value}{d1 d2:List Deferred}{G8:List Frame}(h:Reached P B w0 μ H S fr cs a4 H1 fA bl t1 d1 gD)(q:Reached P B w0 fA H1 a4 fr gD gk bW jU b7 t2 d2 G8):
 Reached P B w0 μ H S fr cs gk bW jU b7 t2 d2 G8:=
 ⟨q.h,h.jm.trans q.jm,q.f,h.c.trans (h.bR▸q.c),q.bR.trans h.bR,q.cr.trans h.cr⟩
theorem Reached.refl(h:b8 P B w0 μ H w)(aA:il P μ S fr tmps ds cs):Reached P B w0 μ H S fr cs S H μ w tmps ds cs:=
 ⟨h,Step.refl _ _,aA,kh.refl _ _ aA.ui,rfl,rfl⟩
theorem ml.steps(hs:Steps P m m')(h:ml P B w0 μ H S fr cs m' k aH H' e):ml P B w0 μ H S fr cs m k aH H' e:=by
 cases e with
 |normal=>obtain⟨ba,bd,cm,cQ,dw,e0,eP⟩:=h;exact⟨ba,bd,cm,cQ,dw,e0,hs.trans eP⟩
 |exit id=>obtain⟨ba,bd,cm,cQ,dw,e0,eP,hn,ho⟩:=h;exact⟨ba,bd,cm,cQ,dw,e0,eP,hn,hs.trans ho⟩
 |ret=>obtain⟨ba,bd,cm,cQ,dw,e0,eP,hn⟩:=h;exact⟨ba,bd,cm,cQ,dw,e0,eP,hs.trans hn⟩
 |panic bw=>obtain⟨ba,bd,cm,cQ,dw,e0,eP,hn,ho,xj⟩:=h;exact⟨ba,bd,cm,cQ,dw,e0,eP,hn,ho,hs.trans xj⟩
 |goto l=>exact h
 |outgrown=>exact h
theorem ml.after{bl:World}{t1:Array Value}{d1:List Deferred}(ao:Reached P B w0 μ H S fr cs a4 H1 fA bl t1 d1 gD)(h:ml P B w0 fA H1 a4 fr gD m k aH H' e):ml P B w0 μ H S fr cs m k aH H' e:=by
 cases e with
 |normal=>obtain⟨ba,bd,cm,cQ,dw,e0,eP⟩:=h;exact⟨ba,bd,cm,cQ,dw,ao.trans e0,eP⟩
 |exit id=>obtain⟨ba,bd,cm,cQ,dw,e0,eP,hn,ho⟩:=h;exact⟨ba,bd,cm,cQ,dw,e0,ao.trans eP,hn,ho⟩
 |ret=>obtain⟨ba,bd,cm,cQ,dw,e0,eP,hn⟩:=h;exact⟨ba,bd,cm,cQ,dw,e0,ao.trans eP,hn⟩
 |panic bw=>obtain⟨ba,bd,cm,cQ,dw,e0,eP,hn,ho,xj⟩:=h;exact⟨ba,bd,cm,cQ,dw,e0,eP,ao.trans hn,ho,xj⟩
 |goto l=>exact h
 |outgrown=>exact h
theorem ml.bind(h:ml P B w0 μ H S fr cs m aW a4 H1 .normal)
 (hk:∀fA bl t1 d1 gD,Reached P B w0 μ H S fr cs a4 H1 fA bl t1 d1 gD->ml P B w0 fA H1 a4 fr gD (lone (bP fr t1 d1 aW) gD bl) k aH H' e):ml P B w0 μ H S fr cs m k aH H' e:=by
 obtain⟨fA,bl,t1,d1,gD,ao,dB⟩:=h;exact((hk fA bl t1 d1 gD ao).after ao).steps dB
theorem ml.pass{x:Item}(aa:∀id,e=.exit id->exitTo id (x::k)=exitTo id k)(aE:e≠.normal)(h:ml P B w0 μ H S fr cs m (x::k) aH H' e):ml P B w0 μ H S fr cs m k aH H' e:=by
 cases e with
 |normal=>exact absurd rfl aE
 |exit id=>obtain⟨ba,bd,cm,cQ,dw,e0,eP,hn,ho⟩:=h;exact⟨ba,bd,cm,cQ,dw,e0,eP,hn.trans (aa id rfl),ho⟩
 |ret=>exact h
 |panic bw=>exact h
 |goto l=>exact h
 |outgrown=>exact h
theorem Uy{c8:dJ}(he:rj (some c8)=some (e,aH,H'))(h:k' P B w0 μ H S fr cs m k c8):ml P B w0 μ H S fr cs m k aH H' e:=by
 cases c8 with
 |ok a4 H1=>
  simp only[rj,cn,dr] at he;obtain⟨rfl,rfl,rfl⟩:=he;obtain⟨a,b,c,d,x,b4,bZ,cH,fX,gf,hc,gU⟩:=h;exact⟨a,b,c,d,x,⟨b4,bZ,cH,fX,gf,hc⟩,gU⟩
 |gx bw a4 H1=>
  simp only[rj,cn,dr] at he;obtain⟨rfl,rfl,rfl⟩:=he;obtain⟨a,b,c,d,x,y,z,b4,bZ,cH,fX,gf,hc,gU,o8⟩:=h;exact⟨a,b,c,d,x,y,z,⟨b4,bZ,cH,fX,gf,hc⟩,gU,o8⟩
theorem adt{E:fZ}{b:Code}{r:Option (Exit×aZ×ar)}{x:Item}(aC:sn P B w0 E.code)(dB:zu b x)(aa:∀id,exitTo id (x::k)=exitTo id k)
 (ao:∀ax a4 H1,r=some (ax,a4,H1)->ml P B w0 μ H S fr cs m (x::k) a4 H1 ax)(he:GW E b r=some (e,aH,H')):ml P B w0 μ H S fr cs m k aH H' e:=by
 cases r with
 |none=>cases he
 |some p=>
  obtain⟨ax,a4,H1⟩:=p;have ad:=ao ax a4 H1 rfl;by_cases aE:ax=.normal
  ·subst aE;have he:E.code b a4 H1=some (e,aH,H'):=he;exact ad.bind fun fA bl t1 d1 gD mb=>aC b a4 H1 e aH H' he fA bl fr t1 d1 gD k x mb.h mb.f dB
  ·have he:some (ax,a4,H1)=some (e,aH,H'):=by
    cases ax<;>first|exact absurd rfl aE|exact he
   simp only[cn,dr] at he;obtain⟨rfl,rfl,rfl⟩:=he;exact ad.pass (fun id _=>aa id) aE
def Wx(P:Program)(B:Nat->Prop)(w0:World)(E:fZ):Prop:=
 ∀f params assign body S H e aH H',Em P E f params assign body S H=some (e,aH,H')->∀μ w fr tmps ds cs k,b8 P B w0 μ H w->il P μ S fr tmps ds cs->
  ml P B w0 μ H S fr cs (lone (bP fr tmps ds (.code (.rangeFunc f params assign body)::k)) cs w) k aH H' e
theorem X3{E:fZ}(pg:P.follows .mixedOrders=true)(aC:sn P B w0 E.code)(am9:afq P B w0 E.call)(apf:agk P B w0 E.aJ)(aon:Wx P B w0 E):sn P B w0 (LD P E):=by
 have hO:=am9 B w0 (fun _ h=>h) (Kept.refl _ _);have nA:=apf B w0 (fun _ h=>h) (Kept.refl _ _);intro c S H e aH H' he μ w fr tmps ds cs k it h aA dB;have s0:(∀c',c≠.loop c')->it=.code c:=fun dT=>by
  rcases dB with q|⟨c',q,_⟩
  ·exact q
  ·exact absurd q (dT c')
 unfold LD at he;cases c with
 |skip=>
  obtain rfl:=s0 (fun _ q=>by cases q);have he:some (Exit.normal,S,H)=some (e,aH,H'):=he;simp only[cn,dr] at he;obtain⟨rfl,rfl,rfl⟩:=he;exact⟨μ,w,tmps,ds,cs,.refl h aA,.one au8⟩
 |label l=>
  obtain rfl:=s0 (fun _ q=>by cases q);have he:some (Exit.normal,S,H)=some (e,aH,H'):=he;simp only[cn,dr] at he;obtain⟨rfl,rfl,rfl⟩:=he;exact⟨μ,w,tmps,ds,cs,.refl h aA,.one auX⟩
 |exit id=>
  obtain rfl:=s0 (fun _ q=>by cases q);have he:some (Exit.exit id,S,H)=some (e,aH,H'):=he;simp only[cn,dr] at he;obtain⟨rfl,rfl,rfl⟩:=he;exact⟨μ,w,tmps,ds,cs,k,.refl h aA,rfl,.refl P _⟩
 |ret=>
  obtain rfl:=s0 (fun _ q=>by cases q);have he:some (Exit.ret,S,H)=some (e,aH,H'):=he;simp only[cn,dr] at he;obtain⟨rfl,rfl,rfl⟩:=he;exact⟨μ,w,tmps,ds,cs,k,.refl h aA,.refl P _⟩
 |goto l=>cases he
 |refuse aBg=>cases he
 |region id ops d=>
  obtain rfl:=s0 (fun _ q=>by cases q);cases d with
  |false=>
   have he:rj (El P E.call E.aJ ops.toList ops.toList S H)=some (e,aH,H'):=he;cases ao:El P E.call E.aJ ops.toList ops.toList S H with
   |none=>rw[ao] at he;cases he
   |some c8=>
    rw[ao] at he;have:=akq (k:=k) (fr:=fr) hO nA ops.toList 0 μ w S H tmps ds cs c8 (by simp) h aA ao;have ax:List.range' 0 ops.toList.length=List.range ops.size:=by rw[afQ];simp
    rw[ax] at this;exact(Uy he this).steps (.one adU)
  |true=>
   have he:rj (vT P E.call E.aJ ops.toList S H)=some (e,aH,H'):=he;cases ao:vT P E.call E.aJ ops.toList S H with
   |none=>rw[ao] at he;cases he
   |some c8=>
    rw[ao] at he;refine Uy he ?_;unfold vT at ao;cases aq:I4 ops.toList with
    |none=>rw[aq] at ao;exact akg pg hO nA h aA ao
    |some L=>rw[aq] at ao;cases ao
 |seq a b=>
  obtain rfl:=s0 (fun _ q=>by cases q);have he:GW E b (E.code a S H)=some (e,aH,H'):=he;exact adt aC (.inl rfl) (fun id=>rfl) (fun ax a4 H1 q=>(aC a S H ax a4 H1 q μ w fr tmps ds cs (.code b::k) (.code a) h aA (.inl rfl)).steps (.one UY)) he
 |cond x a b=>
  obtain rfl:=s0 (fun _ q=>by cases q);have he:Lo E S H a b (a3 S.T H x)=some (e,aH,H'):=he;cases aa:a3 S.T H x with
  |none=>rw[aa] at he;cases he
  |some v=>
   rw[aa] at he;have av:=uP h aA.t aa;cases v with
   |bool t=>
    have ai:=av.GN;cases t with
    |true=>
     have he:E.code a S H=some (e,aH,H'):=he;exact(aC a S H e aH H' he μ w fr tmps ds cs k (.code a) h aA (.inl rfl)).steps (.one (adQ ai))
    |false=>
     have he:E.code b S H=some (e,aH,H'):=he;exact(aC b S H e aH H' he μ w fr tmps ds cs k (.code b) h aA (.inl rfl)).steps (.one (adQ ai))
   |_=>cases he
 |block id c=>
  obtain rfl:=s0 (fun _ q=>by cases q);have he:P7 id (E.code c S H)=some (e,aH,H'):=he;cases ao:E.code c S H with
  |none=>rw[ao] at he;cases he
  |some p=>
   obtain⟨ax,a4,H1⟩:=p;rw[ao] at he;have ad:=(aC c S H ax a4 H1 ao μ w fr tmps ds cs (.inBlock id::k) (.code c) h aA (.inl rfl)).steps (.one (auQ (P:=P)));cases ax with
   |exit mC=>
    have he:(bif Nat.beq mC id then some (Exit.normal,a4,H1) else some (Exit.exit mC,a4,H1))=some (e,aH,H'):=he;obtain⟨ba,bd,cm,cQ,dw,e0,eP,hn,ho⟩:=ad;cases ai:Nat.beq mC id with
    |true=>
     rw[ai,cd] at he;simp only[cn,dr] at he;obtain⟨rfl,rfl,rfl⟩:=he;obtain rfl:=ez ai;have ax:exitTo mC (.inBlock mC::k)=some k:=by simp[exitTo]
     exact⟨ba,bd,cm,cQ,dw,eP,ho.trans (.one (auU (hn.trans ax)))⟩
    |false=>
     rw[ai,dK] at he;simp only[cn,dr] at he;obtain⟨rfl,rfl,rfl⟩:=he;have dX:¬id=mC:=fun q=>by subst q;simp at ai
     have ax:exitTo mC (.inBlock id::k)=exitTo mC k:=by simp[exitTo,dX]
     exact⟨ba,bd,cm,cQ,dw,e0,eP,hn.trans ax,ho⟩
   |normal=>
    have he:some (Exit.normal,a4,H1)=some (e,aH,H'):=he;simp only[cn,dr] at he;obtain⟨rfl,rfl,rfl⟩:=he;obtain⟨ba,bd,cm,cQ,dw,e0,eP⟩:=ad;exact⟨ba,bd,cm,cQ,dw,e0,eP.trans (.one auV)⟩
   |goto l=>exact ad.elim
   |ret=>
    have he:some (Exit.ret,a4,H1)=some (e,aH,H'):=he;simp only[cn,dr] at he;obtain⟨rfl,rfl,rfl⟩:=he;exact ad.pass (fun id q=>by cases q) (fun q=>by cases q)
   |panic bw=>
    have he:some (Exit.panic bw,a4,H1)=some (e,aH,H'):=he;simp only[cn,dr] at he;obtain⟨rfl,rfl,rfl⟩:=he;exact ad.pass (fun id q=>by cases q) (fun q=>by cases q)
   |outgrown=>exact ad.elim
 |loop c=>
  have he:GW E (.loop c) (E.code c S H)=some (e,aH,H'):=he;have a7:step P (lone (bP fr tmps ds (it::k)) cs w)=.next (lone (bP fr tmps ds (.code c::.inLoop c::k)) cs w):=by
   rcases dB with rfl|⟨c',q,rfl⟩
   ·exact adT
   ·injection q with q;subst q;exact adS
  exact adt aC (.inr ⟨c,rfl,rfl⟩) (fun id=>rfl) (fun ax a4 H1 q=>(aC c S H ax a4 H1 q μ w fr tmps ds cs (.inLoop c::k) (.code c) h aA (.inl rfl)).steps (.one a7)) he
 |scope c=>
  obtain rfl:=s0 (fun _ q=>by cases q);have he:Xg (E.code c S H)=some (e,aH,H'):=he;cases ao:E.code c S H with
  |none=>rw[ao] at he;cases he
  |some p=>
   obtain⟨ax,a4,H1⟩:=p;rw[ao] at he;have ad:=(aC c S H ax a4 H1 ao μ w fr tmps ds cs (.inScope c::k) (.code c) h aA (.inl rfl)).steps (.one (au7 (P:=P)));have he:some (ax,a4,H1)=some (e,aH,H'):=by cases ax<;>first|exact he|exact ad.elim
   simp only[cn,dr] at he;obtain⟨rfl,rfl,rfl⟩:=he;by_cases aE:ax=.normal
   ·subst aE;obtain⟨ba,bd,cm,cQ,dw,e0,eP⟩:=ad;exact⟨ba,bd,cm,cQ,dw,e0,eP.trans (.one auW)⟩
   ·exact ad.pass (fun id _=>rfl) aE
 |rangeFunc f params assign body=>
  obtain rfl:=s0 (fun _ q=>by cases q);have he:Em P E f params assign body S H=some (e,aH,H'):=he;exact aon f params assign body S H e aH H' he μ w fr tmps ds cs k h aA
end
end
end Go.Cre
namespace Go.Cre
noncomputable section
open Go.RowKit
section
variable {P:Program}{B:Nat->Prop}{w0 w:World}{μ fA bh:bY}{H H1 H':ar}{S a4 aH:aZ}{fr:Frame}{tmps:Array Value}{ds:List Deferred}{cs gD:List Frame}
def JT (tmps:Array Value):ResultVar->Sem Value
 |.tmp t=>pure (tmps.getD t undef)
 |.cell a t=>do loadVar t (<-asAddr (tmps.getD a undef))
theorem akt(h:b8 P B w0 μ H w){T:a0 Value}{n:Nat}(aI:kF μ T n tmps):∀{l:List ResultVar} {vs:List Value},qT P T H l=some vs->
 ∃nK,(l.mapM (JT tmps)).run P w=.ok nK w/\b3 μ vs nK:=by
 intro l;induction l with
 |nil=>intro vs he;simp[qT] at he;subst he;exact⟨[],by simp,b3.nil _⟩
 |cons x l aP=>
  intro vs he;cases x with
  |tmp t=>
   simp only[qT] at he;cases cB:T.get t with
   |none=>rw[cB] at he;cases he
   |some u=>
    rw[cB] at he;cases aq:qT P T H l with
    |none=>rw[aq] at he;cases he
    |some r=>
     rw[aq] at he;injection he with he;subst he
     obtain⟨nK,a,b⟩:=aP aq;refine⟨tmps.getD t undef::nK,?_,b3.cons (aI.2 t u cB) b⟩;rw[V8];have e:JT tmps (.tmp t)=pure (tmps.getD t undef):=rfl;rw[e];simp only[Sem.run_bind,Sem.run_pure,Result.andThen,a]
  |cell c t=>
   simp only[qT] at he;cases cB:T.get c with
   |none=>rw[cB] at he;cases he
   |some u=>
    rw[cB] at he;simp only at he;cases av:Bw P H t u with
    |none=>rw[av] at he;cases he
    |some v=>
     rw[av] at he;cases aq:qT P T H l with
     |none=>rw[aq] at he;cases he
     |some r=>
      rw[aq] at he;injection he with he;subst he
      obtain⟨nK,a,b⟩:=aP aq;have hu:=aI.2 c u cB;unfold Bw at av;cases u with
      |pointer p=>
       cases p with
       |none=>cases av
       |some p=>
        obtain⟨id,off,L,rfl,a9,bQ⟩:=hu.pu;simp only at av;obtain⟨v',ad,ae⟩:=X4 h a9 av;refine⟨v'::nK,?_,b3.cons ae b⟩;rw[V8];have e:(JT tmps (.cell c t)).run P w=.ok v' w:=by
         show(do loadVar t (<-asAddr (tmps.getD c undef)):Sem Value).run P w=_;rw[bQ];simp[asAddr,ad]
        simp only[Sem.run_bind,e,Result.andThen,a,Sem.run_pure]
      |_=>cases av
theorem atJ(h:b8 P B w0 μ H w){T:a0 Value}{n:Nat}(aI:kF μ T n tmps){fn:Func}{vs:List Value}(he:qT P T H fn.results.toList=some vs):
 ∃v',(results fn tmps).run P w=.ok v' w/\bj μ (pr vs) v':=by
 obtain⟨nK,a,b⟩:=akt h aI he;have hm:(fn.results.mapM (JT tmps)).run P w=.ok nK.toArray w:=by
  rw[afo];simp[a]
 have ao:results fn tmps=(do let vs <-fn.results.mapM (JT tmps);pure (if h:vs.size=1 then vs[0] else .tuple vs)):=by
  unfold results;congr 2
 rw[ao];simp only[Sem.run_bind,hm,Result.andThen,Sem.run_pure];refine⟨_,rfl,?_⟩;by_cases ad:nK.length=1
 ·have ae:vs.length=1:=b.1.trans ad;obtain⟨v,rfl⟩:=afN.1 ae;obtain⟨v',rfl⟩:=afN.1 ad;simpa[pr] using b.2 0 v v' rfl rfl
 ·have ae:vs.length≠1:=fun q=>ad (b.1.symm.trans q);have e:pr vs=.tuple vs.toArray:=by
   unfold pr;split
   ·simp at ae
   ·rfl
  rw[e];have:¬nK.toArray.size=1:=by simpa using ad
  rw[dif_neg this];exact bj.U8 b
theorem iY.lr{c':List PanicEntry}(h:iY μ [] c'):c'=[]:=oj h.1.symm
theorem iY.jK{x:PanicEntry}{c c':List PanicEntry}(h:iY μ (x::c) c'):∃dV d,c'=dV::d/\dV.recovered=x.recovered/\dV.goexit=x.goexit/\bj μ x.v dV.v/\iY μ c d:=by
 cases c' with
 |nil=>have:=h.1;simp at this
 |cons dV d=>
  obtain⟨a,b,e⟩:=h.2 0 x dV rfl rfl;exact⟨dV,d,rfl,a,b,e,by have:=h.1;simpa using this,fun i p q aw bQ=>h.2 (i+1) p q (by simpa using aw) (by simpa using bQ)⟩
theorem iY.nil(μ:bY):iY μ [] []:=⟨rfl,fun i e bD h=>by simp at h⟩
theorem iY.cons{x dV:PanicEntry}{c c':List PanicEntry}(ad:dV.recovered=x.recovered)(ae:dV.goexit=x.goexit)(aD:bj μ x.v dV.v)(h:iY μ c c'):iY μ (x::c) (dV::c'):=
 ⟨by simp[h.1],fun i p q aw bQ=>by
  cases i with
  |zero=>simp at aw bQ;subst aw;subst bQ;exact⟨ad,ae,aD⟩
  |succ i=>exact h.2 i p q (by simpa using aw) (by simpa using bQ)⟩
theorem iY.append{a b0 b b':List PanicEntry}(h:iY μ a b0)(k:iY μ b b'):iY μ (a++b) (b0++b'):=by
 induction a generalizing b0 with
 |nil=>obtain rfl:=h.lr;exact k
 |cons x a aP=>obtain⟨dV,d,rfl,ad,ae,aD,a6⟩:=h.jK;exact .cons ad ae aD (aP a6)
theorem iY.dropWhile{a b0:List PanicEntry}(h:iY μ a b0):iY μ (a.dropWhile (!·.goexit)) (b0.dropWhile (!·.goexit)):=by
 induction a generalizing b0 with
 |nil=>obtain rfl:=h.lr;exact .nil _
 |cons x a aP=>
  obtain⟨dV,d,rfl,ad,ae,aD,a6⟩:=h.jK;simp only[List.dropWhile,ae];cases x.goexit with
  |true=>exact h
  |false=>exact aP a6
theorem auq{u iK:FrameMode}(h:pN μ u iK):pN μ (settle u) (settle iK):=by
 cases u with
 |run=>cases iK<;>first|exact h.elim|trivial
 |returning=>cases iK<;>first|exact h.elim|trivial
 |panicking c=>
  cases iK with
  |run=>exact h.elim
  |returning=>exact h.elim
  |panicking c'=>
   have h:iY μ c c':=h;cases c with
   |nil=>obtain rfl:=h.lr;exact h
   |cons x c=>
    obtain⟨dV,d,rfl,ad,ae,aD,a6⟩:=h.jK;obtain⟨Dn,axi,axg⟩:=x;obtain⟨Vu,Vt,afc⟩:=dV;simp only at ad ae aD;subst ad;subst ae;cases Vt with
    |false=>exact h
    |true=>
     have au:=a6.dropWhile;simp only[settle];cases bQ:c.dropWhile (!·.goexit) with
     |nil=>rw[bQ] at au;rw[au.lr];trivial
     |cons y r=>
      rw[bQ] at au;obtain⟨ng,cv,e,_⟩:=au.jK;rw[e] at au ⊢;exact au
theorem atn{u iK:FrameMode}{c c':List PanicEntry}(h:pN μ u iK)(aC:iY μ c c'):pN μ (raised u c) (raised iK c'):=by
 cases u with
 |run=>cases iK<;>first|exact h.elim|exact aC
 |returning=>cases iK<;>first|exact h.elim|exact aC
 |panicking d=>
  cases iK with
  |run=>exact h.elim
  |returning=>exact h.elim
  |panicking lI=>exact aC.append h
theorem aup{u:FrameMode}(h:u≠.run):settle u≠.run:=by
 unfold settle;split
 ·split<;>(intro q;cases q)
 ·exact h
theorem atm{u:FrameMode}{c:List PanicEntry}:raised u c≠.run:=by
 unfold raised;split<;>(intro q;cases q)
theorem akl{E:fZ}{fn:Func}{T:a0 Value}{gd:List Deferred}{r:Ending×ar}(h:hL P E fn T gd .run H=some r):False:=by
 cases gd with
 |nil=>simp[hL] at h
 |cons d l=>simp[hL,IX] at h
def vd(P:Program)(B:Nat->Prop)(w0:World)(body:FuncId->List Value->Bool->FrameMode->ar->Option (Ending×FrameMode×ar)):Prop:=
 ∀f args bg H e gV H',body f args true bg H=some (e,gV,H')->∀μ w cb,b8 P B w0 μ H w->b3 μ args cb->
  (callFunc f cb.toArray).run P w=.ok (.enter f cb.toArray) w/\
  ∀(c:Frame) (cs:List Frame),pN μ bg c.mode->∃bh a8 bD iK fr,b8 P B w0 bh H' a8/\Step μ bh H H'/\AW bh e bD/\pN bh gV iK/\
   Steps P (lone (Frame.enter P f cb.toArray .deferred) (c::cs) w) (lone fr ({c with mode:=iK}::cs) a8)/\fr.kind=.deferred/\fr.going P a8 bD
theorem akm{E:fZ}(B1:vd P B w0 E.body){fn:Func}{T:a0 Value}{n:Nat}:∀(gd:List Deferred) (u:FrameMode) (H:ar) (e:Ending) (H':ar),hL P E fn T gd u H=some (e,H')->
 ∀(μ:bY) (w:World) (fr:Frame) (cs:List Frame),b8 P B w0 μ H w->kF μ T n fr.tmps->ty μ gd fr.defers->pN μ u fr.mode->u≠.run->P.funcs[fr.fn]?=some fn->
 ∃bh a8 bD nZ,b8 P B w0 bh H' a8/\Step μ bh H H'/\AW bh e bD/\Steps P (lone fr cs w) (lone nZ cs a8)/\nZ.kind=fr.kind/\nZ.fn=fr.fn/\nZ.going P a8 bD:=by
 intro gd;induction gd with
 |nil=>
  intro u H e H' he μ w fr cs h aI au hm hu aA;cases l8:fr.defers with
  |cons d l=>rw[l8] at au;cases au
  |nil=>
   cases u with
   |run=>exact absurd rfl hu
   |returning=>
    have Io:fr.mode=.returning:=by cases bQ:fr.mode<;>rw[bQ] at hm<;>first|rfl|exact hm.elim
    simp only[hL] at he;cases ao:qT P T H fn.results.toList with
    |none=>rw[ao] at he;cases he
    |some vs=>
     rw[ao] at he;simp only[cn,dr] at he;obtain⟨rfl,rfl⟩:=he;obtain⟨v',a,b⟩:=atJ h aI ao;exact⟨μ,w,.returned v',fr,h,Step.refl _ _,b,.refl P _,rfl,rfl,Io,l8,fn,aA,a⟩
   |panicking c=>
    cases bQ:fr.mode with
    |run=>rw[bQ] at hm;exact hm.elim
    |returning=>rw[bQ] at hm;exact hm.elim
    |panicking c'=>
     rw[bQ] at hm;simp only[hL,cn,dr] at he;obtain⟨rfl,rfl⟩:=he;exact⟨μ,w,.panicked c',fr,h,Step.refl _ _,hm,.refl P _,rfl,rfl,bQ,l8,fn,aA⟩
 |cons d gd aP=>
  intro u H e H' he μ w fr cs h aI au hm hu aA;have g8:fr.mode≠.run:=fun q=>by rw[q] at hm;cases u<;>first|exact hu rfl|exact hm.elim
  cases l8:fr.defers with
  |nil=>rw[l8] at au;cases au
  |cons lI fg=>
   rw[l8] at au;cases au with
   |cons _ _ _ _ anf rS=>
   simp only[hL] at he;have Is:IX u=false:=by cases u<;>first|exact absurd rfl hu|rfl
   rw[Is,dK] at he;rcases anf with⟨lf,cap,ek,t1,t2,t3,t4,t5⟩|⟨r,L,t1,t2,t3⟩
   ·rw[t1] at he;simp only at he;cases EM:kY P H lf d.args.toList cap.toList with
    |none=>rw[EM] at he;cases he
    |some p=>
     obtain⟨f,args⟩:=p;rw[EM] at he;simp only at he;obtain⟨jf,ba,bd⟩:=QJ (w:=w) t5 t4 EM;cases ai:E.body f args true u H with
     |none=>rw[ai] at he;cases he
     |some q=>
      obtain⟨ax,gV,H1⟩:=q;rw[ai] at he;obtain⟨a',bf⟩:=B1 f args u H ax gV H1 ai μ w jf h bd;have hinv:(invoke lI.target lI.args).run P w=.ok (.enter f jf.toArray) w:=by
       rw[t2];have ax:ek.toList.toArray=ek:=by simp
       have aS:lI.args.toList.toArray=lI.args:=by simp
       rw[ax,aS] at ba;rw[ba];exact a'
      have ad:=step_defer (cs:=cs) g8 l8 t2 hinv;obtain⟨fA,bl,xP,iK,ayA,bb,br,cc,ej,gl,eo,fC⟩:=bf {fr with defers:=fg} cs hm;have azu:gV≠.run->iK≠.run:=fun q dG=>by rw[dG] at ej;cases gV<;>first|exact q rfl|exact ej.elim
      cases ax with
      |outgrown=>cases he
      |returned v=>
       cases xP with
       |returned v'=>
        simp only at he;by_cases Z5:gV=.run
        ·exfalso;rw[Z5] at he
         --a running frame aym not leave
         have:settle FrameMode.run=.run:=rfl;rw[this] at he;exact(akl (P:=P) (E:=E) he).elim
        have ae:=step_going_returned (P:=P) (c:={{fr with defers:=fg} with mode:=iK}) (cs:=cs) eo fC;obtain⟨jU,b7,aS,BC,b4,bZ,cH,fX,gf,hc,gU⟩:=aP (settle gV) H1 e H' he fA bl {{{fr with defers:=fg} with mode:=iK} with mode:=settle iK} cs bb (aI.mono br.ext) (rS.mono br.ext) (auq ej) (aup Z5) aA;exact⟨jU,b7,aS,BC,b4,br.trans bZ,cH,(Steps.head ad (Steps.trans gl (.one ae))).trans fX,gf,hc,gU⟩
       |panicked c=>exact cc.elim
       |outgrown=>exact cc.elim
      |panicked bw=>
       cases xP with
       |returned v'=>exact cc.elim
       |outgrown=>exact cc.elim
       |panicked xC=>
        simp only at he;have ae:=step_going_panicked (P:=P) (c:={{fr with defers:=fg} with mode:=iK}) (cs:=cs) fC;obtain⟨jU,b7,aS,BC,b4,bZ,cH,fX,gf,hc,gU⟩:=aP (raised gV bw) H1 e H' he fA bl {{{fr with defers:=fg} with mode:=iK} with mode:=raised iK xC} cs bb (aI.mono br.ext) (rS.mono br.ext) (atn ej cc) atm aA;exact⟨jU,b7,aS,BC,b4,br.trans bZ,cH,(Steps.head ad (Steps.trans gl (.one ae))).trans fX,gf,hc,gU⟩
   ·rw[t1] at he;simp only at he;cases ya:H.mem.get r with
    |none=>rw[ya] at he;cases he
    |some b=>
     rw[ya] at he;cases b with
     |gP o=>
      cases o with
      |none=>cases he
      |some l=>
       cases l with
       |cons x y=>cases he
       |nil=>
        simp only at he;cases ay:Nat.ble H.bL r with
        |false=>rw[ay] at he;cases he
        |true=>
         rw[ay,cd] at he;have ay:=h3 ay;cases IG:H.upd r (.gP none) with
         |none=>rw[IG] at he;cases he
         |some H1=>
          rw[IG] at he;obtain⟨gI,arJ,aL,aG,bt⟩:=h.gC r L t2;rw[ya] at aL;injection aL with aL;subst aL
          cases arJ with
          |deferred Bp=>
           obtain⟨rfl,_⟩:=bt;obtain⟨bb,br⟩:=h.ae8 t2 ay ya (fun _ _ _ _ _ _ q=>by cases q) (fun q=>by cases q) IG (fun _ _ _ _ _ _ q=>by cases q) (o':=.deferred none) (b':=.gP none) ⟨rfl,.inr rfl⟩;have Z2:(Instr.takeDeferred L.r).run P w=.ok [] {w with heap:=w.heap.setIfInBounds L.r (.deferred none)}:=by
            simp[Instr.takeDeferred,getObj,setObj,Sem.run,aG]
           have ad:step P (lone fr cs w)=.next (lone {fr with defers:=fg} cs {w with heap:=w.heap.setIfInBounds L.r (.deferred none)}):=by
            refine step_lone_go ?_;obtain⟨Eg,ayk⟩:=lI;simp only at t3;subst t3;cases Io:fr.mode with
            |run=>exact absurd Io g8
            |returning=>simp[stepG,unwind,Io,l8,Z2]
            |panicking bw=>simp[stepG,unwind,Io,l8,Z2]
           obtain⟨jU,b7,aS,BC,b4,bZ,cH,fX,gf,hc,gU⟩:=aP u H1 e H' he μ _ {fr with defers:=fg} cs bb aI rS hm hu aA;exact⟨jU,b7,aS,BC,b4,br.trans bZ,cH,.head ad fX,gf,hc,gU⟩
          |_=>exact bt.elim
     |_=>cases he
end
end
end Go.Cre

/- A part of the proof of TableMetric. -/
import Derived.Test.YtmmfodofkbmfnaaGreatDoorCan
set_option linter.unusedVariables false
set_option linter.unusedSimpArgs false
namespace Go.Cre
noncomputable section
open Go.RowKit
open Classical
section
variable {P:Program}{B:Nat->Prop}{w0 w:World}{μ hE:bm}{H H0 H' H1:ah}{S ha aB aY:aO}{fr:Frame}{tmps:Array Value}{ds:List Deferred}{cs hT:List Frame}{call:dI}{az:ff}
variable {ops:Array Oper}{bT c7 C K G:Nat}{D:Nat->Bool}{A:Nat->Nat}{i:Nat}{o:Oper}{k:List Item}{rest:List Nat}
def iT(listed:Array Bool):Nat->Bool:=fun i=>listed.getD i false
theorem HE{listed:Array Bool}{i:Nat}(aq:i<listed.size):iT (listed.setIfInBounds i true)=jV (iT listed) i:=by
 funext aa
 unfold iT jV;by_cases h:aa=i
 ·subst h;simp[aq]
 ·rw[a1 h];simp[Hz (Ne.symm h)]
theorem X6{listed:Array Bool}(de:listed.size=ops.size){i:Nat}(aq:i∈Region.ready .any ops listed):∃o,ops[i]?=some o/\i<ops.size/\iT listed i=false/\∀aa,(Oper.gK o).testBit aa=true->iT listed aa=true:=by
 unfold Region.ready at aq;simp only[List.mem_filter,List.mem_range,eT,nT] at aq;obtain⟨U,ab,aV⟩:=aq;have cx:i<listed.size:=by omega
 refine⟨ops[i],by simp[U],U,by unfold iT;simp[cx] at ab ⊢;exact ab,fun aa aX=>?_⟩;unfold Oper.gK at aX;obtain⟨e,he,af,rfl⟩:=Jj.1 aX;simp only[u2 U,AF,Ic,Oo] at aV;have:=aV e (by simpa using he);rw[af] at this;simpa[iT] using this
theorem X7(ag:qh ops.toList bT){listed:Array Bool}(de:listed.size=ops.size):∀m,m<ops.size->iT listed m=false->Region.ready .any ops listed≠[]:=by
 intro m;induction m using Nat.strongRecOn with
 |ind m aN=>
  intro hm ax;by_cases iV:∀aa,(Oper.gK ops[m]).testBit aa=true->iT listed aa=true
  ·intro Fc;have:m∈Region.ready .any ops listed:=by
    unfold Region.ready;simp only[List.mem_filter,List.mem_range,eT,nT];refine⟨hm,?_,?_⟩
    ·have cx:m<listed.size:=by omega
     unfold iT at ax;simp[cx] at ax ⊢;exact ax
    ·simp only[u2 hm,AF,Ic,Oo];intro e he;cases af:Region.binds .any e with
     |false=>rfl
     |true=>
      have:=iV e.on (Jj.2 ⟨e,by simpa using he,af,rfl⟩);simpa[iT] using this
   rw[Fc] at this;cases this
  ·simp only[Classical.not_forall] at iV;obtain⟨aa,aX,TB⟩:=iV;have cx:=ag.down m ops[m] aa (by simp[hm]) aX
   exact aN aa cx (by omega) (by cases h:iT listed aa with
    |false=>rfl
    |true=>exact absurd h TB)
theorem Qv{listed:Array Bool}(h:listed.toList.count false=0):∀i,i<listed.size->iT listed i=true:=fun i aq=>by
 have a2:=List.count_eq_zero.1 h;unfold iT;cases af:listed.getD i false with
 |true=>rfl
 |false=>
  exfalso;refine a2 ?_;have:listed[i]=false:=by simpa[aq] using af
  rw[<-this];simp
theorem count_set{listed:Array Bool}{i n:Nat}(aq:i<listed.size)(ay:iT listed i=false)(aF:listed.toList.count false=n+1):(listed.setIfInBounds i true).toList.count false=n:=by
 have af:listed[i]=false:=by unfold iT at ay;simpa[aq] using ay
 have:(listed.setIfInBounds i true).toList=listed.toList.set i true:=by simp
 rw[this,List.count_set (by simpa using aq)];simp[af,aF]
theorem Sa(iV:∀i,C.testBit i=true->D i=true)(t:Nat):free ops.toList C D t=true:=tE.2 fun⟨aa,_,a,b,_,_⟩=>by
 rw[iV aa a] at b;cases b
theorem Ra(gG:lA P B w0 call)(ld:rM P B w0 az)(ag:qh ops.toList bT)(tO:∀(i:Nat) o,ops.toList[i]?=some o->c7.testBit i=false->sr o.op=false){cD:cS}:
 ∀(fuel oU:Nat) (listed:Array Bool) (a6:List g9) (C K G:Nat) (S:aO) (H:ah) (A:Nat->Nat) (μ:bm) (w:World) (tmps:Array Value) (ds:List Deferred) (cs:List Frame),
 Inv P B w0 call az ops.toList bT c7 hE H0 ha fr hT C K G S H μ w tmps ds cs (iT listed) A->ky ops.toList bT c7 C K G a6=true->dt P call az ops.toList a6 S H=some cD->
 (a6=[]\/∃i rest,a6=.bZ i::rest)->listed.size=ops.size->listed.toList.count false=fuel->
 ih P B w0 hE H0 ha fr hT (lone (bj fr tmps ds (.inRegion ops (Region.linearise.go .any ops fuel oU listed [])::k)) cs w) k cD:=by
 intro fuel;induction fuel with
 |zero=>
  intro oU listed a6 C K G S H A μ w tmps ds cs au ao he dO de Br;have iV:=Qv Br;have hA:∀i,i<ops.size->C.testBit i=true:=fun i aq=>au.sub i (iV i (by omega));rcases dO with rfl|⟨i,rest,rfl⟩
  ·have he:some (cS.ok S H)=some cD:=he;injection he with he;subst he
   refine⟨μ,w,tmps,ds,cs,au.h,au.iR,?_,au.vo,au.bu,au.b3,.one GY⟩;refine au.f.conv rfl rfl rfl rfl rfl fun t v q=>sG.2 ⟨Sa (fun i aq=>?_) t,q⟩;obtain⟨o,ae⟩:=au.xP i aq;have:i<ops.toList.length:=(h4.1 ae).1;exact iV i (by simp at this;omega)
  ·exfalso;simp only[ky,eT] at ao;have ay:=ao.1.1.1.1.1;unfold fits at ay;rw[jr] at ay;cases ae:ops.toList[i]? with
   |none=>rw[ae] at ay;simp at ay
   |some o=>
    have:i<ops.toList.length:=(h4.1 ae).1;have:=hA i (by simpa using this);simp[this] at ay
 |succ fuel aN=>
  intro oU listed a6 C K G S H A μ w tmps ds cs au ao he dO de Br;have dV:Region.ready .any ops listed≠[]:=by
   have:0<listed.toList.count false:=by omega
   rw[List.count_pos_iff] at this;obtain⟨m,hm,e⟩:=List.mem_iff_getElem.1 this;have E8:m<listed.size:=by simpa using hm
   refine X7 ag de m (by omega) ?_;unfold iT;simp at e;simp[E8,e]
  simp only[Region.linearise.go]
  change ih P B w0 hE H0 ha fr hT (lone (bj fr tmps ds (.inRegion ops (match(Region.ready .any ops listed)[oU % (Region.ready .any ops listed).length]? with
   |some i=>Region.linearise.go .any ops fuel (oU / (Region.ready .any ops listed).length) (listed.setIfInBounds i true) [i]
   |none=>[].reverse)::k)) cs w) k cD
  cases aq:(Region.ready .any ops listed)[oU % (Region.ready .any ops listed).length]? with
  |none=>
   exfalso;have KQ:0<(Region.ready .any ops listed).length:=List.length_pos_iff.2 dV;have cx:=qd oU KQ;rw[fx cx] at aq;cases aq
  |some i=>
   simp only
   rw[linearise_go_acc,List.reverse_singleton,List.singleton_append];obtain⟨o,ae,cx,vM,nu⟩:=X6 de (nZ aq);have la:ops.toList[i]?=some o:=by simpa using ae
   have Bx:i<listed.size:=by omega
   have BL:(listed.setIfInBounds i true).size=ops.size:=by simpa using de
   have np:∀aa,C.testBit aa=true->K.testBit aa=true\/G.testBit aa=true:=fun aa aX=>by
    have mI:sub C (Nat.lor K G)=true:=by
     rcases dO with rfl|⟨Le,rest,rfl⟩
     ·simp only[ky,eT] at ao;exact ao.2
     ·simp only[ky,eT] at ao;exact ao.1.1.2
    have:=G1 mI aX;rw[sU,ru] at this;exact this
   cases hA:C.testBit i with
   |true=>
    obtain⟨a4,aZ,e9,dT,cb,dA,yr⟩:=X9 (k:=k) (rest:=Region.linearise.go .any ops fuel (oU / (Region.ready .any ops listed).length) (listed.setIfInBounds i true) []) gG ld ag au np hA vM ae nu;rw[<-HE Bx] at yr;exact(aN _ _ a6 C K G S H A a4 aZ e9 dT cb yr ao he dO BL (count_set Bx vM Br)).steps dA
   |false=>
    rcases dO with rfl|⟨Le,rest,rfl⟩
    ·exfalso;simp only[ky,eT] at ao;have:=Vc ao.1 i (by simpa using cx);rw[hA] at this;cases this
    ·have ab1:=ao;simp only[ky,eT] at ao;obtain⟨⟨⟨⟨⟨dG,iN⟩,kw⟩,wS⟩,ra⟩,sK⟩:=ao;have TR:i=Le:=by
      have:=WQ kw i o la;rw[lE] at this;rcases this with q|q|q
      ·rw[hA] at q;cases q
      ·exact q
      ·exfalso;have Ux:sub (Oper.gK o) C=true:=by
        unfold sub;have:Nat.land (Oper.gK o) C=Oper.gK o:=by
         apply Nat.eq_of_testBit_eq
         intro aa;rw[CM];cases aX:(Oper.gK o).testBit aa with
         |false=>rfl
         |true=>rw[au.sub aa (nu aa aX)];rfl
        rw[this];simp
       rw[Ux] at q;cases q
     subst TR;rw[jr,la] at ra;simp only[eT] at ra;have he:Option.rec (motive:=fun _=>Option cS) none (fun o=>j1 (dt P call az ops.toList rest) (one P call az ops.toList S H o)) (nth ops.toList i)=some cD:=he;rw[jr,la] at he;have he:j1 (dt P call az ops.toList rest) (one P call az ops.toList S H o)=some cD:=he;cases iL:one P call az ops.toList S H o with
     |none=>rw[iL] at he;cases he
     |some cJ=>
      rw[iL] at he;cases cJ with
      |hj c aY H1=>cases he
      |ok aY H1=>
       have he:dt P call az ops.toList rest aY H1=some cD:=he;obtain⟨a4,aZ,e9,dT,cb,dA,yr⟩:=X8 (k:=k) (rest:=Region.linearise.go .any ops fuel (oU / (Region.ready .any ops listed).length) (listed.setIfInBounds i true) []) gG ld ag au hA ae nu iL rfl (fun aa aX=>G1 ra.1 aX) ra.2;rw[<-HE Bx] at yr;obtain⟨mT,p5,kC,aB,H',lz,aQ,aP,bC,dp⟩:=I1 ag tO rest _ _ aY H1 A yr sK he;exact(aN _ _ mT p5 _ kC aB H' lz a4 aZ e9 dT cb aQ aP bC dp BL (count_set Bx vM Br)).steps dA
theorem Rz(kO:P.follows .mixedOrders=true)(gG:lA P B w0 call)(ld:rM P B w0 az)(h:bz P B w0 μ H w)(ay:fZ μ S fr tmps ds cs){cD:cS}{id:Nat}(he:ty P call az ops.toList S H=some cD):
 ih P B w0 μ H S fr cs (lone (bj fr tmps ds (.code (.region id ops true)::k)) cs w) k cD:=by
 unfold ty at he;cases ax:x6 ops.toList with
 |false=>rw[ax] at he;cases he
 |true=>
  rw[ax,bH] at he;unfold x6 at ax;simp only[eT] at ax;obtain⟨Tx,Ty⟩:=ax;have ag:=Yv Tx;have tO:∀(i:Nat) o,ops.toList[i]?=some o->(rN ops.toList 0).testBit i=false->sr o.op=false:=fun i o ae af=>by
   cases aK:sr o.op with
   |false=>rfl
   |true=>
    have:=Pm (k:=0) ae aK;rw[lE,af] at this;cases this
  refine ih.steps (.one YD) ?_;simp only[Region.schedule,kO,Bool.true_or,BW];have a0:∀i,Nat.testBit 0 i=false:=fun i=>Nat.zero_testBit i;have nk:∀i,iT (Array.replicate ops.size false) i=false:=fun i=>by
   unfold iT;by_cases aq:i<ops.size
   ·simp[aq]
   ·simp[aq]
  have au:Inv P B w0 call az ops.toList (vk ops.toList ops.toList 0) (rN ops.toList 0) μ H S fr cs 0 0 0 S H μ {w with drawn:=w.drawn+1} tmps ds cs (iT (Array.replicate ops.size false)) (fun _=>0):=by
   refine⟨h.drawn _,?_,Step.refl _ _,hF.refl _ _ ay.pu,rfl,rfl,fun i aq=>?_,fun i aq=>?_,fun i o aa aq=>?_,fun i o aa aq=>?_,fun i aq=>?_,fun i o aq=>?_,fun i aa Gu dg aq=>?_⟩
   ·exact ay.conv rfl rfl rfl rfl rfl fun t v q=>(sG.1 q).2
   ·rw[nk] at aq;cases aq
   ·rw[a0] at aq;cases aq
   ·rw[nk] at aq;cases aq
   ·rw[a0] at aq;cases aq
   ·rw[a0] at aq;cases aq
   ·rw[a0] at aq;cases aq
   ·rw[a0] at aq;cases aq
  obtain⟨mT,p5,kC,aB,H',lz,aQ,aP,bC,dp⟩:=I1 ag tO (Cv ops.toList) _ _ S H _ au Ty he;unfold Region.linearise;exact Ra gG ld ag tO ops.size _ _ mT p5 _ kC aB H' lz μ _ tmps ds cs aQ aP bC dp (by simp) (by simp)
end
end
end Go.Cre
namespace Go.Cre
noncomputable section
open Go.RowKit
open Classical
section
variable {P:Program}{B:Nat->Prop}{w0 w:World}{μ hE:bm}{H H0 H' H1:ah}{S ha aB aY:aO}{fr:Frame}{tmps:Array Value}{ds:List Deferred}{cs hT:List Frame}{call:dI}{az:ff}
variable {ops:Array Oper}{l:List Oper}{bT c7 C K G:Nat}{D:Nat->Bool}{A:Nat->Nat}{i:Nat}{o:Oper}{k:List Item}{rest:List Nat}
end
end
end Go.Cre
namespace Go.Cre
noncomputable section
open Go.RowKit
open Classical
section
variable {P:Program}{call:dI}{az:ff}
end
end
end Go.Cre
namespace Go.Cre
noncomputable section
open Go.RowKit
open Classical
def Ox(P:Program)(B:Nat->Prop)(w0:World)(call:dI):Prop:=∀(gk:Nat->Prop) (gB:World),(∀k,B k->gk k)->Kept B w0 gB->lA P gk gB call
def O8(P:Program)(B:Nat->Prop)(w0:World)(az:ff):Prop:=∀(gk:Nat->Prop) (gB:World),(∀k,B k->gk k)->Kept B w0 gB->rM P gk gB az
section
variable {P:Program}{B gk:Nat->Prop}{w0 w aZ:World}{μ a4 hE:bm}{H H0 H' H1:ah}{S ha aB aY:aO}{fr:Frame}{tmps:Array Value}{ds:List Deferred}{cs hT:List Frame}{call:dI}{az:ff}
variable {ops:Array Oper}{l:List Oper}{bT c7 C K G:Nat}{D:Nat->Bool}{A:Nat->Nat}{i:Nat}{o:Oper}{k:List Item}{rest:List Nat}{ws a m:Nat}{es:List (Nat×Value×Value)}
end
end
end Go.Cre
namespace Go.Cre
noncomputable section
open Go.RowKit
open Classical
section
variable {P:Program}{ops:Array Oper}{L:Lit}{l:List Oper}{bT c7:Nat}{key el:TypeId}{Vi:TypeDesc}{es:List (Nat×Value×Value)}{a:Nat}{O6:aO}{i:Nat}{o:Oper}
end
section
variable {P:Program}{B:Nat->Prop}{w0 ac4:World}{hE:bm}{H0 bG aay:ah}{ha O6 e0:aO}{fr:Frame}{hT:List Frame}{call:dI}{az:ff}
variable {ops:Array Oper}{L:Lit}{l:List Oper}{bT c7:Nat}{key el:TypeId}{Vi:TypeDesc}{es:List (Nat×Value×Value)}{a bS:Nat}{k:List Item}
end
end
end Go.Cre
namespace Go.Cre
noncomputable section
open Go.RowKit
structure Reached (P:Program) (B:Nat->Prop) (w0:World) (μ:bm) (H:ah) (S:aO) (fr:Frame) (cs:List Frame) (aB:aO) (H':ah) (a4:bm) (aZ:World) (e9:Array Value) (dT:List Deferred) (cb:List Frame):Prop where
 h:bz P B w0 a4 H' aZ
 iR:Step μ a4 H H'
 f:fZ a4 aB fr e9 dT cb
 c:hF S.bu cs cb
 bu:aB.bu=S.bu
 b3:aB.b3=S.b3
def iS(P:Program)(B:Nat->Prop)(w0:World)(μ:bm)(H:ah)(S:aO)(fr:Frame)(cs:List Frame)(m:Machine)(k:List Item)(aB:aO)(H':ah):Exit->Prop
 |.normal=>∃a4 aZ e9 dT cb,Reached P B w0 μ H S fr cs aB H' a4 aZ e9 dT cb/\Steps P m (lone (bj fr e9 dT k) cb aZ)
 |.exit id=>∃a4 aZ e9 dT cb ir,Reached P B w0 μ H S fr cs aB H' a4 aZ e9 dT cb/\exitTo id ir=exitTo id k/\Steps P m (lone (bj fr e9 dT (.code (.exit id)::ir)) cb aZ)
 |.ret=>∃a4 aZ e9 dT cb ir,Reached P B w0 μ H S fr cs aB H' a4 aZ e9 dT cb/\Steps P m (lone (bj fr e9 dT (.code .ret::ir)) cb aZ)
 |.panic chain=>∃a4 aZ e9 dT cb xW ir,Reached P B w0 μ H S fr cs aB H' a4 aZ e9 dT cb/\gD a4 chain xW/\Steps P m (lone {bj fr e9 dT ir with mode:=.panicking xW} cb aZ)
 |_=>False
def rK(c:Code)(it:Item):Prop:=it=.code c\/∃bo,c=.loop bo/\it=.inLoop bo
def m0(P:Program)(B:Nat->Prop)(w0:World)(code:Code->aO->ah->Option (Exit×aO×ah)):Prop:=
 ∀c S H e aB H',code c S H=some (e,aB,H')->∀μ w fr tmps ds cs k it,bz P B w0 μ H w->fZ μ S fr tmps ds cs->rK c it->iS P B w0 μ H S fr cs (lone (bj fr tmps ds (it::k)) cs w) k aB H' e
section
variable {P:Program}{B:Nat->Prop}{w0 w:World}{μ d':bm}{H H1 H':ah}{S aY aB:aO}{fr:Frame}{tmps:Array Value}{ds:List Deferred}{cs eP:List Frame}{m m':Machine}{k a8:List Item}{e:Exit}
theorem Reached.trans{g8:bm}{e0:aO}{bG:ah}{bc b6:World}{t1 t2:Array Value}{d1 d2:List Deferred}{A0:List Frame}(h:Reached P B w0 μ H S fr cs aY H1 d' bc t1 d1 eP)(q:Reached P B w0 d' H1 aY fr eP e0 bG g8 b6 t2 d2 A0):
 Reached P B w0 μ H S fr cs e0 bG g8 b6 t2 d2 A0:=
 ⟨q.h,h.iR.trans q.iR,q.f,h.c.trans (h.bu▸q.c),q.bu.trans h.bu,q.b3.trans h.b3⟩
theorem Reached.refl(h:bz P B w0 μ H w)(ay:fZ μ S fr tmps ds cs):Reached P B w0 μ H S fr cs S H μ w tmps ds cs:=
 ⟨h,Step.refl _ _,ay,hF.refl _ _ ay.pu,rfl,rfl⟩
theorem iS.steps(ag:Steps P m m')(h:iS P B w0 μ H S fr cs m' k aB H' e):iS P B w0 μ H S fr cs m k aB H' e:=by
 cases e with
 |normal=>obtain⟨bP,bS,cE,c4,cO,ey,gE⟩:=h;exact⟨bP,bS,cE,c4,cO,ey,ag.trans gE⟩
 |exit id=>obtain⟨bP,bS,cE,c4,cO,ey,gE,ij,jy⟩:=h;exact⟨bP,bS,cE,c4,cO,ey,gE,ij,ag.trans jy⟩
 |ret=>obtain⟨bP,bS,cE,c4,cO,ey,gE,ij⟩:=h;exact⟨bP,bS,cE,c4,cO,ey,gE,ag.trans ij⟩
 |panic bT=>obtain⟨bP,bS,cE,c4,cO,ey,gE,ij,jy,vg⟩:=h;exact⟨bP,bS,cE,c4,cO,ey,gE,ij,jy,ag.trans vg⟩
 |goto l=>exact h
 |outgrown=>exact h
theorem iS.after{bc:World}{t1:Array Value}{d1:List Deferred}(ap:Reached P B w0 μ H S fr cs aY H1 d' bc t1 d1 eP)(h:iS P B w0 d' H1 aY fr eP m k aB H' e):iS P B w0 μ H S fr cs m k aB H' e:=by
 cases e with
 |normal=>obtain⟨bP,bS,cE,c4,cO,ey,gE⟩:=h;exact⟨bP,bS,cE,c4,cO,ap.trans ey,gE⟩
 |exit id=>obtain⟨bP,bS,cE,c4,cO,ey,gE,ij,jy⟩:=h;exact⟨bP,bS,cE,c4,cO,ey,ap.trans gE,ij,jy⟩
 |ret=>obtain⟨bP,bS,cE,c4,cO,ey,gE,ij⟩:=h;exact⟨bP,bS,cE,c4,cO,ey,ap.trans gE,ij⟩
 |panic bT=>obtain⟨bP,bS,cE,c4,cO,ey,gE,ij,jy,vg⟩:=h;exact⟨bP,bS,cE,c4,cO,ey,gE,ap.trans ij,jy,vg⟩
 |goto l=>exact h
 |outgrown=>exact h
theorem iS.bind(h:iS P B w0 μ H S fr cs m a8 aY H1 .normal)
 (hk:∀d' bc t1 d1 eP,Reached P B w0 μ H S fr cs aY H1 d' bc t1 d1 eP->iS P B w0 d' H1 aY fr eP (lone (bj fr t1 d1 a8) eP bc) k aB H' e):iS P B w0 μ H S fr cs m k aB H' e:=by
 obtain⟨d',bc,t1,d1,eP,ap,dA⟩:=h;exact((hk d' bc t1 d1 eP ap).after ap).steps dA
theorem iS.pass{x:Item}(j:∀id,e=.exit id->exitTo id (x::k)=exitTo id k)(aE:e≠.normal)(h:iS P B w0 μ H S fr cs m (x::k) aB H' e):iS P B w0 μ H S fr cs m k aB H' e:=by
 cases e with
 |normal=>exact absurd rfl aE
 |exit id=>obtain⟨bP,bS,cE,c4,cO,ey,gE,ij,jy⟩:=h;exact⟨bP,bS,cE,c4,cO,ey,gE,ij.trans (j id rfl),jy⟩
 |ret=>exact h
 |panic bT=>exact h
 |goto l=>exact h
 |outgrown=>exact h
theorem GK{cD:cS}(he:oR (some cD)=some (e,aB,H'))(h:ih P B w0 μ H S fr cs m k cD):iS P B w0 μ H S fr cs m k aB H' e:=by
 cases cD with
 |ok aY H1=>
  simp only[oR,bL,cU] at he;obtain⟨rfl,rfl,rfl⟩:=he;obtain⟨a,b,c,d,x,b4,b0,cI,eM,eH,fg,e2⟩:=h;exact⟨a,b,c,d,x,⟨b4,b0,cI,eM,eH,fg⟩,e2⟩
 |hj bT aY H1=>
  simp only[oR,bL,cU] at he;obtain⟨rfl,rfl,rfl⟩:=he;obtain⟨a,b,c,d,x,y,z,b4,b0,cI,eM,eH,fg,e2,lM⟩:=h;exact⟨a,b,c,d,x,y,z,⟨b4,b0,cI,eM,eH,fg⟩,e2,lM⟩
theorem M5{E:eC}{b:Code}{r:Option (Exit×aO×ah)}{x:Item}(aF:m0 P B w0 E.code)(dA:rK b x)(j:∀id,exitTo id (x::k)=exitTo id k)
 (ap:∀aA aY H1,r=some (aA,aY,H1)->iS P B w0 μ H S fr cs m (x::k) aY H1 aA)(he:xU E b r=some (e,aB,H')):iS P B w0 μ H S fr cs m k aB H' e:=by
 cases r with
 |none=>cases he
 |some p=>
  obtain⟨aA,aY,H1⟩:=p;have U:=ap aA aY H1 rfl;by_cases aE:aA=.normal
  ·subst aE;have he:E.code b aY H1=some (e,aB,H'):=he;exact U.bind fun d' bc t1 d1 eP iM=>aF b aY H1 e aB H' he d' bc fr t1 d1 eP k x iM.h iM.f dA
  ·have he:some (aA,aY,H1)=some (e,aB,H'):=by
    cases aA<;>first|exact absurd rfl aE|exact he
   simp only[bL,cU] at he;obtain⟨rfl,rfl,rfl⟩:=he;exact U.pass (fun id _=>j id) aE
def Ih(P:Program)(B:Nat->Prop)(w0:World)(E:eC):Prop:=
 ∀f params assign body S H e aB H',A' P E f params assign body S H=some (e,aB,H')->∀μ w fr tmps ds cs k,bz P B w0 μ H w->fZ μ S fr tmps ds cs->
  iS P B w0 μ H S fr cs (lone (bj fr tmps ds (.code (.rangeFunc f params assign body)::k)) cs w) k aB H' e
theorem Jr{E:eC}(kO:P.follows .mixedOrders=true)(aF:m0 P B w0 E.code)(Tp:Ox P B w0 E.call)(UU:O8 P B w0 E.az)(Uj:Ih P B w0 E):m0 P B w0 (A5 P E):=by
 have gG:=Tp B w0 (fun _ h=>h) (Kept.refl _ _);have ld:=UU B w0 (fun _ h=>h) (Kept.refl _ _);intro c S H e aB H' he μ w fr tmps ds cs k it h ay dA;have nt:(∀bo,c≠.loop bo)->it=.code c:=fun dQ=>by
  rcases dA with q|⟨bo,q,_⟩
  ·exact q
  ·exact absurd q (dQ bo)
 unfold A5 at he;cases c with
 |skip=>
  obtain rfl:=nt (fun _ q=>by cases q);have he:some (Exit.normal,S,H)=some (e,aB,H'):=he;simp only[bL,cU] at he;obtain⟨rfl,rfl,rfl⟩:=he;exact⟨μ,w,tmps,ds,cs,.refl h ay,.one YU⟩
 |label l=>
  obtain rfl:=nt (fun _ q=>by cases q);have he:some (Exit.normal,S,H)=some (e,aB,H'):=he;simp only[bL,cU] at he;obtain⟨rfl,rfl,rfl⟩:=he;exact⟨μ,w,tmps,ds,cs,.refl h ay,.one YI⟩
 |exit id=>
  obtain rfl:=nt (fun _ q=>by cases q);have he:some (Exit.exit id,S,H)=some (e,aB,H'):=he;simp only[bL,cU] at he;obtain⟨rfl,rfl,rfl⟩:=he;exact⟨μ,w,tmps,ds,cs,k,.refl h ay,rfl,.refl P _⟩
 |ret=>
  obtain rfl:=nt (fun _ q=>by cases q);have he:some (Exit.ret,S,H)=some (e,aB,H'):=he;simp only[bL,cU] at he;obtain⟨rfl,rfl,rfl⟩:=he;exact⟨μ,w,tmps,ds,cs,k,.refl h ay,.refl P _⟩
 |goto l=>cases he
 |refuse ac2=>cases he
 |region id ops d=>
  obtain rfl:=nt (fun _ q=>by cases q);cases d with
  |false=>
   have he:oR (vz P E.call E.az ops.toList ops.toList S H)=some (e,aB,H'):=he;cases ap:vz P E.call E.az ops.toList ops.toList S H with
   |none=>rw[ap] at he;cases he
   |some cD=>
    rw[ap] at he;have:=RJ (k:=k) (fr:=fr) gG ld ops.toList 0 μ w S H tmps ds cs cD (by simp) h ay ap;have aA:List.range' 0 ops.toList.length=List.range ops.size:=by rw[OR];simp
    rw[aA] at this;exact(GK he this).steps (.one Nn)
  |true=>
   have he:oR (rZ P E.call E.az ops.toList S H)=some (e,aB,H'):=he;cases ap:rZ P E.call E.az ops.toList S H with
   |none=>rw[ap] at he;cases he
   |some cD=>
    rw[ap] at he;refine GK he ?_;unfold rZ at ap;cases aw:B4 ops.toList with
    |none=>rw[aw] at ap;exact Rz kO gG ld h ay ap
    |some L=>rw[aw] at ap;cases ap
 |seq a b=>
  obtain rfl:=nt (fun _ q=>by cases q);have he:xU E b (E.code a S H)=some (e,aB,H'):=he;exact M5 aF (.inl rfl) (fun id=>rfl) (fun aA aY H1 q=>(aF a S H aA aY H1 q μ w fr tmps ds cs (.code b::k) (.code a) h ay (.inl rfl)).steps (.one GZ)) he
 |cond x a b=>
  obtain rfl:=nt (fun _ q=>by cases q);have he:AR E S H a b (aR S.T H x)=some (e,aB,H'):=he;cases j:aR S.T H x with
  |none=>rw[j] at he;cases he
  |some v=>
   rw[j] at he;have aD:=oM h ay.t j;cases v with
   |bool t=>
    have af:=aD.xO;cases t with
    |true=>
     have he:E.code a S H=some (e,aB,H'):=he;exact(aF a S H e aB H' he μ w fr tmps ds cs k (.code a) h ay (.inl rfl)).steps (.one (Nj af))
    |false=>
     have he:E.code b S H=some (e,aB,H'):=he;exact(aF b S H e aB H' he μ w fr tmps ds cs k (.code b) h ay (.inl rfl)).steps (.one (Nj af))
   |_=>cases he
 |block id c=>
  obtain rfl:=nt (fun _ q=>by cases q);have he:DJ id (E.code c S H)=some (e,aB,H'):=he;cases ap:E.code c S H with
  |none=>rw[ap] at he;cases he
  |some p=>
   obtain⟨aA,aY,H1⟩:=p;rw[ap] at he;have U:=(aF c S H aA aY H1 ap μ w fr tmps ds cs (.inBlock id::k) (.code c) h ay (.inl rfl)).steps (.one (YB (P:=P)));cases aA with
   |exit iY=>
    have he:(bif Nat.beq iY id then some (Exit.normal,aY,H1) else some (Exit.exit iY,aY,H1))=some (e,aB,H'):=he;obtain⟨bP,bS,cE,c4,cO,ey,gE,ij,jy⟩:=U;cases af:Nat.beq iY id with
    |true=>
     rw[af,bH] at he;simp only[bL,cU] at he;obtain⟨rfl,rfl,rfl⟩:=he;obtain rfl:=dB af;have aA:exitTo iY (.inBlock iY::k)=some k:=by simp[exitTo]
     exact⟨bP,bS,cE,c4,cO,gE,jy.trans (.one (YF (ij.trans aA)))⟩
    |false=>
     rw[af,cZ] at he;simp only[bL,cU] at he;obtain⟨rfl,rfl,rfl⟩:=he;have dV:¬id=iY:=fun q=>by subst q;simp at af
     have aA:exitTo iY (.inBlock id::k)=exitTo iY k:=by simp[exitTo,dV]
     exact⟨bP,bS,cE,c4,cO,ey,gE,ij.trans aA,jy⟩
   |normal=>
    have he:some (Exit.normal,aY,H1)=some (e,aB,H'):=he;simp only[bL,cU] at he;obtain⟨rfl,rfl,rfl⟩:=he;obtain⟨bP,bS,cE,c4,cO,ey,gE⟩:=U;exact⟨bP,bS,cE,c4,cO,ey,gE.trans (.one YG)⟩
   |goto l=>exact U.elim
   |ret=>
    have he:some (Exit.ret,aY,H1)=some (e,aB,H'):=he;simp only[bL,cU] at he;obtain⟨rfl,rfl,rfl⟩:=he;exact U.pass (fun id q=>by cases q) (fun q=>by cases q)
   |panic bT=>
    have he:some (Exit.panic bT,aY,H1)=some (e,aB,H'):=he;simp only[bL,cU] at he;obtain⟨rfl,rfl,rfl⟩:=he;exact U.pass (fun id q=>by cases q) (fun q=>by cases q)
   |outgrown=>exact U.elim
 |loop c=>
  have he:xU E (.loop c) (E.code c S H)=some (e,aB,H'):=he;have b2:step P (lone (bj fr tmps ds (it::k)) cs w)=.next (lone (bj fr tmps ds (.code c::.inLoop c::k)) cs w):=by
   rcases dA with rfl|⟨bo,q,rfl⟩
   ·exact Nm
   ·injection q with q;subst q;exact Nl
  exact M5 aF (.inr ⟨c,rfl,rfl⟩) (fun id=>rfl) (fun aA aY H1 q=>(aF c S H aA aY H1 q μ w fr tmps ds cs (.inLoop c::k) (.code c) h ay (.inl rfl)).steps (.one b2)) he
 |scope c=>
  obtain rfl:=nt (fun _ q=>by cases q);have he:IZ (E.code c S H)=some (e,aB,H'):=he;cases ap:E.code c S H with
  |none=>rw[ap] at he;cases he
  |some p=>
   obtain⟨aA,aY,H1⟩:=p;rw[ap] at he;have U:=(aF c S H aA aY H1 ap μ w fr tmps ds cs (.inScope c::k) (.code c) h ay (.inl rfl)).steps (.one (YT (P:=P)));have he:some (aA,aY,H1)=some (e,aB,H'):=by cases aA<;>first|exact he|exact U.elim
   simp only[bL,cU] at he;obtain⟨rfl,rfl,rfl⟩:=he;by_cases aE:aA=.normal
   ·subst aE;obtain⟨bP,bS,cE,c4,cO,ey,gE⟩:=U;exact⟨bP,bS,cE,c4,cO,ey,gE.trans (.one YH)⟩
   ·exact U.pass (fun id _=>rfl) aE
 |rangeFunc f params assign body=>
  obtain rfl:=nt (fun _ q=>by cases q);have he:A' P E f params assign body S H=some (e,aB,H'):=he;exact Uj f params assign body S H e aB H' he μ w fr tmps ds cs k h ay
end
end
end Go.Cre

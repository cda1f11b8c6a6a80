/- A part of the proof of SampleParts. -/
import Derived.Test.YtdbhjgpppmkagaaGreatCan
set_option linter.unusedVariables false
set_option linter.unusedSimpArgs false
namespace Go.Cre
noncomputable section
open Go.RowKit
open Classical
section
variable {P:Program}{B:Nat->Prop}{w0 w:World}{μ jG:bH}{H H0 H' H1:ao}{S iZ aO ba:aQ}{fr:Frame}{tmps:Array Value}{ds:List Deferred}{cs jL:List Frame}{call:eS}{aL:gU}
variable {ops:Array Oper}{ca cq C K G:Nat}{D:Nat->Bool}{A:Nat->Nat}{i:Nat}{o:Oper}{k:List Item}{rest:List Nat}
def ll(listed:Array Bool):Nat->Bool:=fun i=>listed.getD i false
theorem Pv{listed:Array Bool}{i:Nat}(ak:i<listed.size):ll (listed.setIfInBounds i true)=mz (ll listed) i:=by
 funext j
 unfold ll mz;by_cases h:j=i
 ·subst h;simp[ak]
 ·rw[aq h];simp[Pq (Ne.symm h)]
theorem aiq{listed:Array Bool}(eI:listed.size=ops.size){i:Nat}(ak:i∈Region.ready .any ops listed):∃o,ops[i]?=some o/\i<ops.size/\ll listed i=false/\∀j,(Oper.fP o).testBit j=true->ll listed j=true:=by
 unfold Region.ready at ak;simp only[At,wA,fR,pJ] at ak;obtain⟨aa,ab,aK⟩:=ak;have cP:i<listed.size:=by omega
 refine⟨ops[i],by simp[aa],aa,by unfold ll;simp[cP] at ab ⊢;exact ab,fun j aU=>?_⟩;unfold Oper.fP at aU;obtain⟨e,he,ai,rfl⟩:=Rv.1 aU;simp only[Aj aa,C3,P1,Xl] at aK;have:=aK e (by simpa using he);rw[ai] at this;simpa[ll] using this
theorem air(al:uR ops.toList ca){listed:Array Bool}(eI:listed.size=ops.size):∀m,m<ops.size->ll listed m=false->Region.ready .any ops listed≠[]:=by
 intro m;induction m using Nat.strongRecOn with
 |ind m aG=>
  intro hm aS;by_cases cA:∀j,(Oper.fP ops[m]).testBit j=true->ll listed j=true
  ·intro MO;have:m∈Region.ready .any ops listed:=by
    unfold Region.ready;simp only[At,wA,fR,pJ];refine⟨hm,?_,?_⟩
    ·have cP:m<listed.size:=by omega
     unfold ll at aS;simp[cP] at aS ⊢;exact aS
    ·simp only[Aj hm,C3,P1,Xl];intro e he;cases ai:Region.binds .any e with
     |false=>rfl
     |true=>
      have:=cA e.on (Rv.2 ⟨e,by simpa using he,ai,rfl⟩);simpa[ll] using this
   rw[MO] at this;cases this
  ·simp only[Classical.not_forall] at cA;obtain⟨j,aU,ac8⟩:=cA;have cP:=al.down m ops[m] j (by simp[hm]) aU
   exact aG j cP (by omega) (by cases h:ll listed j with
    |false=>rfl
    |true=>exact absurd h ac8)
theorem ZA{listed:Array Bool}(h:listed.toList.count false=0):∀i,i<listed.size->ll listed i=true:=fun i ak=>by
 have bt:=List.count_eq_zero.1 h;unfold ll;cases ai:listed.getD i false with
 |true=>rfl
 |false=>
  exfalso;refine bt ?_;have:listed[i]=false:=by simpa[ak] using ai
  rw[<-this];simp
theorem count_set{listed:Array Bool}{i n:Nat}(ak:i<listed.size)(aw:ll listed i=false)(av:listed.toList.count false=n+1):(listed.setIfInBounds i true).toList.count false=n:=by
 have ai:listed[i]=false:=by unfold ll at aw;simpa[ak] using aw
 have:(listed.setIfInBounds i true).toList=listed.toList.set i true:=by simp
 rw[this,List.count_set (by simpa using ak)];simp[ai,av]
theorem abq(cA:∀i,C.testBit i=true->D i=true)(t:Nat):free ops.toList C D t=true:=y3.2 fun⟨j,_,a,b,_,_⟩=>by
 rw[cA j a] at b;cases b
theorem aae(hP:o1 P B w0 call)(oD:wE P B w0 aL)(al:uR ops.toList ca)(vm:∀(i:Nat) o,ops.toList[i]?=some o->cq.testBit i=false->xC o.op=false){cw:dz}:
 ∀(pZ s0:Nat) (listed:Array Bool) (a8:List iW) (C K G:Nat) (S:aQ) (H:ao) (A:Nat->Nat) (μ:bH) (w:World) (tmps:Array Value) (ds:List Deferred) (cs:List Frame),
 Inv P B w0 call aL ops.toList ca cq jG H0 iZ fr jL C K G S H μ w tmps ds cs (ll listed) A->nv ops.toList ca cq C K G a8=true->eH P call aL ops.toList a8 S H=some cw->
 (a8=[]\/∃i rest,a8=.cv i::rest)->listed.size=ops.size->listed.toList.count false=pZ->
 kL P B w0 jG H0 iZ fr jL (lone (bG fr tmps ds (.inRegion ops (Region.linearise.go .any ops pZ s0 listed [])::k)) cs w) k cw:=by
 intro pZ;induction pZ with
 |zero=>
  intro s0 listed a8 C K G S H A μ w tmps ds cs aE au he dq eI HR;have cA:=ZA HR;have mS:∀i,i<ops.size->C.testBit i=true:=fun i ak=>aE.sub i (cA i (by omega));rcases dq with rfl|⟨i,rest,rfl⟩
  ·have he:some (dz.ok S H)=some cw:=he;injection he with he;subst he
   refine⟨μ,w,tmps,ds,cs,aE.h,aE.ei,?_,aE.AO,aE.b0,aE.cB,.one OC⟩;refine aE.f.conv rfl rfl rfl rfl rfl fun t v q=>xN.2 ⟨abq (fun i ak=>?_) t,q⟩;obtain⟨o,an⟩:=aE.Dj i ak;have:i<ops.toList.length:=(dv.1 an).1;exact cA i (by simp at this;omega)
  ·exfalso;simp only[nv,fR] at au;have aw:=au.1.1.1.1.1;unfold fits at aw;rw[kk] at aw;cases an:ops.toList[i]? with
   |none=>rw[an] at aw;simp at aw
   |some o=>
    have:i<ops.toList.length:=(dv.1 an).1;have:=mS i (by simpa using this);simp[this] at aw
 |succ pZ aG=>
  intro s0 listed a8 C K G S H A μ w tmps ds cs aE au he dq eI HR;have dR:Region.ready .any ops listed≠[]:=by
   have:0<listed.toList.count false:=by omega
   rw[List.count_pos_iff] at this;obtain⟨m,hm,e⟩:=List.mem_iff_getElem.1 this;have MG:m<listed.size:=by simpa using hm
   refine air al eI m (by omega) ?_;unfold ll;simp at e;simp[MG,e]
  simp only[Region.linearise.go]
  change kL P B w0 jG H0 iZ fr jL (lone (bG fr tmps ds (.inRegion ops (match(Region.ready .any ops listed)[s0 % (Region.ready .any ops listed).length]? with
   |some i=>Region.linearise.go .any ops pZ (s0 / (Region.ready .any ops listed).length) (listed.setIfInBounds i true) [i]
   |none=>[].reverse)::k)) cs w) k cw
  cases ak:(Region.ready .any ops listed)[s0 % (Region.ready .any ops listed).length]? with
  |none=>
   exfalso;have Ti:0<(Region.ready .any ops listed).length:=List.length_pos_iff.2 dR;have cP:=Nat.mod_lt s0 Ti;rw[du cP] at ak;cases ak
  |some i=>
   simp only
   rw[linearise_go_acc,List.reverse_singleton,List.singleton_append];obtain⟨o,an,cP,A6,rm⟩:=aiq eI (cV ak);have oC:ops.toList[i]?=some o:=by simpa using an
   have HY:i<listed.size:=by omega
   have Ij:(listed.setIfInBounds i true).size=ops.size:=by simpa using eI
   have L':∀j,C.testBit j=true->K.testBit j=true\/G.testBit j=true:=fun j aU=>by
    have kf:sub C (Nat.lor K G)=true:=by
     rcases dq with rfl|⟨TQ,rest,rfl⟩
     ·simp only[nv,fR] at au;exact au.2
     ·simp only[nv,fR] at au;exact au.1.1.2
    have:=OG kf aU;rw[x8,wo] at this;exact this
   cases mS:C.testBit i with
   |true=>
    obtain⟨bk,bb,gR,fm,cK,c0,Ef⟩:=ait (k:=k) (rest:=Region.linearise.go .any ops pZ (s0 / (Region.ready .any ops listed).length) (listed.setIfInBounds i true) []) hP oD al aE L' mS A6 an rm;rw[<-Pv HY] at Ef;exact(aG _ _ a8 C K G S H A bk bb gR fm cK Ef au he dq Ij (count_set HY A6 HR)).steps c0
   |false=>
    rcases dq with rfl|⟨TQ,rest,rfl⟩
    ·exfalso;simp only[nv,fR] at au;have:=ae8 au.1 i (by simpa using cP);rw[mS] at this;cases this
    ·have k9:=au;simp only[nv,fR] at au;obtain⟨⟨⟨⟨⟨dS,ho⟩,hp⟩,jA⟩,hS⟩,lh⟩:=au;have Mx:i=TQ:=by
      have:=agA hp i o oC;rw[lN] at this;rcases this with q|q|q
      ·rw[mS] at q;cases q
      ·exact q
      ·exfalso;have aer:sub (Oper.fP o) C=true:=by
        unfold sub;have:Nat.land (Oper.fP o) C=Oper.fP o:=by
         apply Nat.eq_of_testBit_eq
         intro j;rw[Jz];cases aU:(Oper.fP o).testBit j with
         |false=>rfl
         |true=>rw[aE.sub j (rm j aU)];rfl
        rw[this];simp
       rw[aer] at q;cases q
     subst Mx;rw[kk,oC] at hS;simp only[fR] at hS;have he:Option.rec (motive:=fun _=>Option dz) none (fun o=>ls (eH P call aL ops.toList rest) (one P call aL ops.toList S H o)) (nth ops.toList i)=some cw:=he;rw[kk,oC] at he;have he:ls (eH P call aL ops.toList rest) (one P call aL ops.toList S H o)=some cw:=he;cases nU:one P call aL ops.toList S H o with
     |none=>rw[nU] at he;cases he
     |some cO=>
      rw[nU] at he;cases cO with
      |jh c ba H1=>cases he
      |ok ba H1=>
       have he:eH P call aL ops.toList rest ba H1=some cw:=he;obtain⟨bk,bb,gR,fm,cK,c0,Ef⟩:=ais (k:=k) (rest:=Region.linearise.go .any ops pZ (s0 / (Region.ready .any ops listed).length) (listed.setIfInBounds i true) []) hP oD al aE mS an rm nU rfl (fun j aU=>OG hS.1 aU) hS.2;rw[<-Pv HY] at Ef;obtain⟨qu,uF,nz,aO,H',oZ,aZ,aR,bY,ep⟩:=Q3 al vm rest _ _ ba H1 A Ef lh he;exact(aG _ _ qu uF _ nz aO H' oZ bk bb gR fm cK aZ aR bY ep Ij (count_set HY A6 HR)).steps c0
theorem aaI(nS:P.follows .mixedOrders=true)(hP:o1 P B w0 call)(oD:wE P B w0 aL)(h:bR P B w0 μ H w)(aw:hM μ S fr tmps ds cs){cw:dz}{id:Nat}(he:yU P call aL ops.toList S H=some cw):
 kL P B w0 μ H S fr cs (lone (bG fr tmps ds (.code (.region id ops true)::k)) cs w) k cw:=by
 unfold yU at he;cases aS:DI ops.toList with
 |false=>rw[aS] at he;cases he
 |true=>
  rw[aS,cc] at he;unfold DI at aS;simp only[fR] at aS;obtain⟨SI,SJ⟩:=aS;have al:=ajd SI;have vm:∀(i:Nat) o,ops.toList[i]?=some o->(wJ ops.toList 0).testBit i=false->xC o.op=false:=fun i o an ai=>by
   cases aW:xC o.op with
   |false=>rfl
   |true=>
    have:=Yg (k:=0) an aW;rw[lN,ai] at this;cases this
  refine kL.steps (.one ajn) ?_;simp only[Region.schedule,nS,Bool.true_or,if_true];have bC:∀i,Nat.testBit 0 i=false:=fun i=>Nat.zero_testBit i;have Sd:∀i,ll (Array.replicate ops.size false) i=false:=fun i=>by
   unfold ll;by_cases ak:i<ops.size
   ·simp[ak]
   ·simp[ak]
  have aE:Inv P B w0 call aL ops.toList (AN ops.toList ops.toList 0) (wJ ops.toList 0) μ H S fr cs 0 0 0 S H μ {w with drawn:=w.drawn+1} tmps ds cs (ll (Array.replicate ops.size false)) (fun _=>0):=by
   refine⟨h.drawn _,?_,Step.refl _ _,jH.refl _ _ aw.tQ,rfl,rfl,fun i ak=>?_,fun i ak=>?_,fun i o j ak=>?_,fun i o j ak=>?_,fun i ak=>?_,fun i o ak=>?_,fun i j n4 eo ak=>?_⟩
   ·exact aw.conv rfl rfl rfl rfl rfl fun t v q=>(xN.1 q).2
   ·rw[Sd] at ak;cases ak
   ·rw[bC] at ak;cases ak
   ·rw[Sd] at ak;cases ak
   ·rw[bC] at ak;cases ak
   ·rw[bC] at ak;cases ak
   ·rw[bC] at ak;cases ak
   ·rw[bC] at ak;cases ak
  obtain⟨qu,uF,nz,aO,H',oZ,aZ,aR,bY,ep⟩:=Q3 al vm (Jb ops.toList) _ _ S H _ aE SJ he;unfold Region.linearise;exact aae hP oD al vm ops.size _ _ qu uF _ nz aO H' oZ μ _ tmps ds cs aZ aR bY ep (by simp) (by simp)
end
end
end Go.Cre
namespace Go.Cre
noncomputable section
open Go.RowKit
open Classical
section
variable {P:Program}{B:Nat->Prop}{w0 w:World}{μ jG:bH}{H H0 H' H1:ao}{S iZ aO ba:aQ}{fr:Frame}{tmps:Array Value}{ds:List Deferred}{cs jL:List Frame}{call:eS}{aL:gU}
variable {ops:Array Oper}{l:List Oper}{ca cq C K G:Nat}{D:Nat->Bool}{A:Nat->Nat}{i:Nat}{o:Oper}{k:List Item}{rest:List Nat}
end
end
end Go.Cre
namespace Go.Cre
noncomputable section
open Go.RowKit
open Classical
section
variable {P:Program}{call:eS}{aL:gU}
end
end
end Go.Cre
namespace Go.Cre
noncomputable section
open Go.RowKit
open Classical
def Xs(P:Program)(B:Nat->Prop)(w0:World)(call:eS):Prop:=∀(hU:Nat->Prop) (ib:World),(∀k,B k->hU k)->Kept B w0 ib->o1 P hU ib call
def X2(P:Program)(B:Nat->Prop)(w0:World)(aL:gU):Prop:=∀(hU:Nat->Prop) (ib:World),(∀k,B k->hU k)->Kept B w0 ib->wE P hU ib aL
section
variable {P:Program}{B hU:Nat->Prop}{w0 w bb:World}{μ bk jG:bH}{H H0 H' H1:ao}{S iZ aO ba:aQ}{fr:Frame}{tmps:Array Value}{ds:List Deferred}{cs jL:List Frame}{call:eS}{aL:gU}
variable {ops:Array Oper}{l:List Oper}{ca cq C K G:Nat}{D:Nat->Bool}{A:Nat->Nat}{i:Nat}{o:Oper}{k:List Item}{rest:List Nat}{ws a m:Nat}{es:List (Nat×Value×Value)}
end
end
end Go.Cre
namespace Go.Cre
noncomputable section
open Go.RowKit
open Classical
section
variable {P:Program}{ops:Array Oper}{L:Lit}{l:List Oper}{ca cq:Nat}{key el:TypeId}{afg:TypeDesc}{es:List (Nat×Value×Value)}{a:Nat}{XZ:aQ}{i:Nat}{o:Oper}
end
section
variable {P:Program}{B:Nat->Prop}{w0 apj:World}{jG:bH}{H0 bZ alI:ao}{iZ XZ gq:aQ}{fr:Frame}{jL:List Frame}{call:eS}{aL:gU}
variable {ops:Array Oper}{L:Lit}{l:List Oper}{ca cq:Nat}{key el:TypeId}{afg:TypeDesc}{es:List (Nat×Value×Value)}{a bF:Nat}{k:List Item}
end
end
end Go.Cre
namespace Go.Cre
noncomputable section
open Go.RowKit
structure Reached (P:Program) (B:Nat->Prop) (w0:World) (μ:bH) (H:ao) (S:aQ) (fr:Frame) (cs:List Frame) (aO:aQ) (H':ao) (bk:bH) (bb:World) (gR:Array Value) (fm:List Deferred) (cK:List Frame):Prop where
 h:bR P B w0 bk H' bb
 ei:Step μ bk H H'
 f:hM bk aO fr gR fm cK
 c:jH S.b0 cs cK
 b0:aO.b0=S.b0
 cB:aO.cB=S.cB
def lk(P:Program)(B:Nat->Prop)(w0:World)(μ:bH)(H:ao)(S:aQ)(fr:Frame)(cs:List Frame)(m:Machine)(k:List Item)(aO:aQ)(H':ao):Exit->Prop
 |.normal=>∃bk bb gR fm cK,Reached P B w0 μ H S fr cs aO H' bk bb gR fm cK/\Steps P m (lone (bG fr gR fm k) cK bb)
 |.exit id=>∃bk bb gR fm cK fw,Reached P B w0 μ H S fr cs aO H' bk bb gR fm cK/\exitTo id fw=exitTo id k/\Steps P m (lone (bG fr gR fm (.code (.exit id)::fw)) cK bb)
 |.ret=>∃bk bb gR fm cK fw,Reached P B w0 μ H S fr cs aO H' bk bb gR fm cK/\Steps P m (lone (bG fr gR fm (.code .ret::fw)) cK bb)
 |.panic chain=>∃bk bb gR fm cK Dw fw,Reached P B w0 μ H S fr cs aO H' bk bb gR fm cK/\ie bk chain Dw/\Steps P m (lone {bG fr gR fm fw with mode:=.panicking Dw} cK bb)
 |_=>False
def wC(c:Code)(it:Item):Prop:=it=.code c\/∃b1,c=.loop b1/\it=.inLoop b1
def qJ(P:Program)(B:Nat->Prop)(w0:World)(code:Code->aQ->ao->Option (Exit×aQ×ao)):Prop:=
 ∀c S H e aO H',code c S H=some (e,aO,H')->∀μ w fr tmps ds cs k it,bR P B w0 μ H w->hM μ S fr tmps ds cs->wC c it->lk P B w0 μ H S fr cs (lone (bG fr tmps ds (it::k)) cs w) k aO H' e
section
variable {P:Program}{B:Nat->Prop}{w0 w:World}{μ e':bH}{H H1 H':ao}{S ba aO:aQ}{fr:Frame}{tmps:Array Value}{ds:List Deferred}{cs gv:List Frame}{m m':Machine}{k a':List Item}{e:Exit}
theorem Reached.trans{iV:bH}{gq:aQ}{bZ:ao}{d' gS:World}{t1 t2:Array Value}{d1 d2:List Deferred}{Hd:List Frame}(h:Reached P B w0 μ H S fr cs ba H1 e' d' t1 d1 gv)(q:Reached P B w0 e' H1 ba fr gv gq bZ iV gS t2 d2 Hd):
 Reached P B w0 μ H S fr cs gq bZ iV gS t2 d2 Hd:=
 ⟨q.h,h.ei.trans q.ei,q.f,h.c.trans (h.b0▸q.c),q.b0.trans h.b0,q.cB.trans h.cB⟩
theorem Reached.refl(h:bR P B w0 μ H w)(aw:hM μ S fr tmps ds cs):Reached P B w0 μ H S fr cs S H μ w tmps ds cs:=
 ⟨h,Step.refl _ _,aw,jH.refl _ _ aw.tQ,rfl,rfl⟩
theorem lk.steps(al:Steps P m m')(h:lk P B w0 μ H S fr cs m' k aO H' e):lk P B w0 μ H S fr cs m k aO H' e:=by
 cases e with
 |normal=>obtain⟨bl,bF,bO,b3,c2,cX,g5⟩:=h;exact⟨bl,bF,bO,b3,c2,cX,al.trans g5⟩
 |exit id=>obtain⟨bl,bF,bO,b3,c2,cX,g5,g6,gx⟩:=h;exact⟨bl,bF,bO,b3,c2,cX,g5,g6,al.trans gx⟩
 |ret=>obtain⟨bl,bF,bO,b3,c2,cX,g5,g6⟩:=h;exact⟨bl,bF,bO,b3,c2,cX,g5,al.trans g6⟩
 |panic ca=>obtain⟨bl,bF,bO,b3,c2,cX,g5,g6,gx,wF⟩:=h;exact⟨bl,bF,bO,b3,c2,cX,g5,g6,gx,al.trans wF⟩
 |goto l=>exact h
 |outgrown=>exact h
theorem lk.after{d':World}{t1:Array Value}{d1:List Deferred}(ax:Reached P B w0 μ H S fr cs ba H1 e' d' t1 d1 gv)(h:lk P B w0 e' H1 ba fr gv m k aO H' e):lk P B w0 μ H S fr cs m k aO H' e:=by
 cases e with
 |normal=>obtain⟨bl,bF,bO,b3,c2,cX,g5⟩:=h;exact⟨bl,bF,bO,b3,c2,ax.trans cX,g5⟩
 |exit id=>obtain⟨bl,bF,bO,b3,c2,cX,g5,g6,gx⟩:=h;exact⟨bl,bF,bO,b3,c2,cX,ax.trans g5,g6,gx⟩
 |ret=>obtain⟨bl,bF,bO,b3,c2,cX,g5,g6⟩:=h;exact⟨bl,bF,bO,b3,c2,cX,ax.trans g5,g6⟩
 |panic ca=>obtain⟨bl,bF,bO,b3,c2,cX,g5,g6,gx,wF⟩:=h;exact⟨bl,bF,bO,b3,c2,cX,g5,ax.trans g6,gx,wF⟩
 |goto l=>exact h
 |outgrown=>exact h
theorem lk.bind(h:lk P B w0 μ H S fr cs m a' ba H1 .normal)
 (aH:∀e' d' t1 d1 gv,Reached P B w0 μ H S fr cs ba H1 e' d' t1 d1 gv->lk P B w0 e' H1 ba fr gv (lone (bG fr t1 d1 a') gv d') k aO H' e):lk P B w0 μ H S fr cs m k aO H' e:=by
 obtain⟨e',d',t1,d1,gv,ax,c0⟩:=h;exact((aH e' d' t1 d1 gv ax).after ax).steps c0
theorem lk.pass{x:Item}(I:∀id,e=.exit id->exitTo id (x::k)=exitTo id k)(aM:e≠.normal)(h:lk P B w0 μ H S fr cs m (x::k) aO H' e):lk P B w0 μ H S fr cs m k aO H' e:=by
 cases e with
 |normal=>exact absurd rfl aM
 |exit id=>obtain⟨bl,bF,bO,b3,c2,cX,g5,g6,gx⟩:=h;exact⟨bl,bF,bO,b3,c2,cX,g5,g6.trans (I id rfl),gx⟩
 |ret=>exact h
 |panic ca=>exact h
 |goto l=>exact h
 |outgrown=>exact h
theorem Of{cw:dz}(he:sV (some cw)=some (e,aO,H'))(h:kL P B w0 μ H S fr cs m k cw):lk P B w0 μ H S fr cs m k aO H' e:=by
 cases cw with
 |ok ba H1=>
  simp only[sV,b6,da] at he;obtain⟨rfl,rfl,rfl⟩:=he;obtain⟨a,b,c,d,x,b4,bX,cg,fJ,fV,gW,gJ⟩:=h;exact⟨a,b,c,d,x,⟨b4,bX,cg,fJ,fV,gW⟩,gJ⟩
 |jh ca ba H1=>
  simp only[sV,b6,da] at he;obtain⟨rfl,rfl,rfl⟩:=he;obtain⟨a,b,c,d,x,y,z,b4,bX,cg,fJ,fV,gW,gJ,pc⟩:=h;exact⟨a,b,c,d,x,y,z,⟨b4,bX,cg,fJ,fV,gW⟩,gJ,pc⟩
theorem VZ{E:fY}{b:Code}{r:Option (Exit×aQ×ao)}{x:Item}(av:qJ P B w0 E.code)(c0:wC b x)(I:∀id,exitTo id (x::k)=exitTo id k)
 (ax:∀aD ba H1,r=some (aD,ba,H1)->lk P B w0 μ H S fr cs m (x::k) ba H1 aD)(he:Du E b r=some (e,aO,H')):lk P B w0 μ H S fr cs m k aO H' e:=by
 cases r with
 |none=>cases he
 |some p=>
  obtain⟨aD,ba,H1⟩:=p;have aa:=ax aD ba H1 rfl;by_cases aM:aD=.normal
  ·subst aM;have he:E.code b ba H1=some (e,aO,H'):=he;exact aa.bind fun e' d' t1 d1 gv lb=>av b ba H1 e aO H' he e' d' fr t1 d1 gv k x lb.h lb.f c0
  ·have he:some (aD,ba,H1)=some (e,aO,H'):=by
    cases aD<;>first|exact absurd rfl aM|exact he
   simp only[b6,da] at he;obtain⟨rfl,rfl,rfl⟩:=he;exact aa.pass (fun id _=>I id) aM
def P5(P:Program)(B:Nat->Prop)(w0:World)(E:fY):Prop:=
 ∀f params assign body S H e aO H',AZ P E f params assign body S H=some (e,aO,H')->∀μ w fr tmps ds cs k,bR P B w0 μ H w->hM μ S fr tmps ds cs->
  lk P B w0 μ H S fr cs (lone (bG fr tmps ds (.code (.rangeFunc f params assign body)::k)) cs w) k aO H' e
theorem RE{E:fY}(nS:P.follows .mixedOrders=true)(av:qJ P B w0 E.code)(acX:Xs P B w0 E.call)(aeN:X2 P B w0 E.aL)(ad7:P5 P B w0 E):qJ P B w0 (Hi P E):=by
 have hP:=acX B w0 (fun _ h=>h) (Kept.refl _ _);have oD:=aeN B w0 (fun _ h=>h) (Kept.refl _ _);intro c S H e aO H' he μ w fr tmps ds cs k it h aw c0;have rl:(∀b1,c≠.loop b1)->it=.code c:=fun df=>by
  rcases c0 with q|⟨b1,q,_⟩
  ·exact q
  ·exact absurd q (df b1)
 unfold Hi at he;cases c with
 |skip=>
  obtain rfl:=rl (fun _ q=>by cases q);have he:some (Exit.normal,S,H)=some (e,aO,H'):=he;simp only[b6,da] at he;obtain⟨rfl,rfl,rfl⟩:=he;exact⟨μ,w,tmps,ds,cs,.refl h aw,.one ajE⟩
 |label l=>
  obtain rfl:=rl (fun _ q=>by cases q);have he:some (Exit.normal,S,H)=some (e,aO,H'):=he;simp only[b6,da] at he;obtain⟨rfl,rfl,rfl⟩:=he;exact⟨μ,w,tmps,ds,cs,.refl h aw,.one ajs⟩
 |exit id=>
  obtain rfl:=rl (fun _ q=>by cases q);have he:some (Exit.exit id,S,H)=some (e,aO,H'):=he;simp only[b6,da] at he;obtain⟨rfl,rfl,rfl⟩:=he;exact⟨μ,w,tmps,ds,cs,k,.refl h aw,rfl,.refl P _⟩
 |ret=>
  obtain rfl:=rl (fun _ q=>by cases q);have he:some (Exit.ret,S,H)=some (e,aO,H'):=he;simp only[b6,da] at he;obtain⟨rfl,rfl,rfl⟩:=he;exact⟨μ,w,tmps,ds,cs,k,.refl h aw,.refl P _⟩
 |goto l=>cases he
 |refuse aph=>cases he
 |region id ops d=>
  obtain rfl:=rl (fun _ q=>by cases q);cases d with
  |false=>
   have he:sV (AX P E.call E.aL ops.toList ops.toList S H)=some (e,aO,H'):=he;cases ax:AX P E.call E.aL ops.toList ops.toList S H with
   |none=>rw[ax] at he;cases he
   |some cw=>
    rw[ax] at he;have:=aaS (k:=k) (fr:=fr) hP oD ops.toList 0 μ w S H tmps ds cs cw (by simp) h aw ax;have aD:List.range' 0 ops.toList.length=List.range ops.size:=by rw[XO];simp
    rw[aD] at this;exact(Of he this).steps (.one Wn)
  |true=>
   have he:sV (w4 P E.call E.aL ops.toList S H)=some (e,aO,H'):=he;cases ax:w4 P E.call E.aL ops.toList S H with
   |none=>rw[ax] at he;cases he
   |some cw=>
    rw[ax] at he;refine Of he ?_;unfold w4 at ax;cases ay:ID ops.toList with
    |none=>rw[ay] at ax;exact aaI nS hP oD h aw ax
    |some L=>rw[ay] at ax;cases ax
 |seq a b=>
  obtain rfl:=rl (fun _ q=>by cases q);have he:Du E b (E.code a S H)=some (e,aO,H'):=he;exact VZ av (.inl rfl) (fun id=>rfl) (fun aD ba H1 q=>(av a S H aD ba H1 q μ w fr tmps ds cs (.code b::k) (.code a) h aw (.inl rfl)).steps (.one OD)) he
 |cond x a b=>
  obtain rfl:=rl (fun _ q=>by cases q);have he:G3 E S H a b (a6 S.T H x)=some (e,aO,H'):=he;cases I:a6 S.T H x with
  |none=>rw[I] at he;cases he
  |some v=>
   rw[I] at he;have ap:=sQ h aw.t I;cases v with
   |bool t=>
    have ai:=ap.Di;cases t with
    |true=>
     have he:E.code a S H=some (e,aO,H'):=he;exact(av a S H e aO H' he μ w fr tmps ds cs k (.code a) h aw (.inl rfl)).steps (.one (Wj ai))
    |false=>
     have he:E.code b S H=some (e,aO,H'):=he;exact(av b S H e aO H' he μ w fr tmps ds cs k (.code b) h aw (.inl rfl)).steps (.one (Wj ai))
   |_=>cases he
 |block id c=>
  obtain rfl:=rl (fun _ q=>by cases q);have he:KM id (E.code c S H)=some (e,aO,H'):=he;cases ax:E.code c S H with
  |none=>rw[ax] at he;cases he
  |some p=>
   obtain⟨aD,ba,H1⟩:=p;rw[ax] at he;have aa:=(av c S H aD ba H1 ax μ w fr tmps ds cs (.inBlock id::k) (.code c) h aw (.inl rfl)).steps (.one (ajl (P:=P)));cases aD with
   |exit lF=>
    have he:(bif Nat.beq lF id then some (Exit.normal,ba,H1) else some (Exit.exit lF,ba,H1))=some (e,aO,H'):=he;obtain⟨bl,bF,bO,b3,c2,cX,g5,g6,gx⟩:=aa;cases ai:Nat.beq lF id with
    |true=>
     rw[ai,cc] at he;simp only[b6,da] at he;obtain⟨rfl,rfl,rfl⟩:=he;obtain rfl:=eK ai;have aD:exitTo lF (.inBlock lF::k)=some k:=by simp[exitTo]
     exact⟨bl,bF,bO,b3,c2,g5,gx.trans (.one (ajp (g6.trans aD)))⟩
    |false=>
     rw[ai,dN] at he;simp only[b6,da] at he;obtain⟨rfl,rfl,rfl⟩:=he;have dR:¬id=lF:=fun q=>by subst q;simp at ai
     have aD:exitTo lF (.inBlock id::k)=exitTo lF k:=by simp[exitTo,dR]
     exact⟨bl,bF,bO,b3,c2,cX,g5,g6.trans aD,gx⟩
   |normal=>
    have he:some (Exit.normal,ba,H1)=some (e,aO,H'):=he;simp only[b6,da] at he;obtain⟨rfl,rfl,rfl⟩:=he;obtain⟨bl,bF,bO,b3,c2,cX,g5⟩:=aa;exact⟨bl,bF,bO,b3,c2,cX,g5.trans (.one ajq)⟩
   |goto l=>exact aa.elim
   |ret=>
    have he:some (Exit.ret,ba,H1)=some (e,aO,H'):=he;simp only[b6,da] at he;obtain⟨rfl,rfl,rfl⟩:=he;exact aa.pass (fun id q=>by cases q) (fun q=>by cases q)
   |panic ca=>
    have he:some (Exit.panic ca,ba,H1)=some (e,aO,H'):=he;simp only[b6,da] at he;obtain⟨rfl,rfl,rfl⟩:=he;exact aa.pass (fun id q=>by cases q) (fun q=>by cases q)
   |outgrown=>exact aa.elim
 |loop c=>
  have he:Du E (.loop c) (E.code c S H)=some (e,aO,H'):=he;have cp:step P (lone (bG fr tmps ds (it::k)) cs w)=.next (lone (bG fr tmps ds (.code c::.inLoop c::k)) cs w):=by
   rcases c0 with rfl|⟨b1,q,rfl⟩
   ·exact Wm
   ·injection q with q;subst q;exact Wl
  exact VZ av (.inr ⟨c,rfl,rfl⟩) (fun id=>rfl) (fun aD ba H1 q=>(av c S H aD ba H1 q μ w fr tmps ds cs (.inLoop c::k) (.code c) h aw (.inl rfl)).steps (.one cp)) he
 |scope c=>
  obtain rfl:=rl (fun _ q=>by cases q);have he:Q0 (E.code c S H)=some (e,aO,H'):=he;cases ax:E.code c S H with
  |none=>rw[ax] at he;cases he
  |some p=>
   obtain⟨aD,ba,H1⟩:=p;rw[ax] at he;have aa:=(av c S H aD ba H1 ax μ w fr tmps ds cs (.inScope c::k) (.code c) h aw (.inl rfl)).steps (.one (ajD (P:=P)));have he:some (aD,ba,H1)=some (e,aO,H'):=by cases aD<;>first|exact he|exact aa.elim
   simp only[b6,da] at he;obtain⟨rfl,rfl,rfl⟩:=he;by_cases aM:aD=.normal
   ·subst aM;obtain⟨bl,bF,bO,b3,c2,cX,g5⟩:=aa;exact⟨bl,bF,bO,b3,c2,cX,g5.trans (.one ajr)⟩
   ·exact aa.pass (fun id _=>rfl) aM
 |rangeFunc f params assign body=>
  obtain rfl:=rl (fun _ q=>by cases q);have he:AZ P E f params assign body S H=some (e,aO,H'):=he;exact ad7 f params assign body S H e aO H' he μ w fr tmps ds cs k h aw
end
end
end Go.Cre

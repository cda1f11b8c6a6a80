/- A part of the proof of TableTurns. -/
import Derived.Test.YtlgjlbpafcifoaaGreatDoorCai
import Derived.Laws.Sem
set_option linter.unusedVariables false
set_option linter.unusedSimpArgs false
namespace Go.Cre
noncomputable section
open Go.RowKit
open Classical
section
variable {P:Program}{B:Nat->Prop}{w0 w:World}{μ ji:bL}{H H0 H' H1:an}{S iq aC a0:aV}{fr:Frame}{tmps:Array Value}{ds:List Deferred}{cs jE:List Frame}{call:eo}{aE:gU}
variable {ops:Array Oper}{bk c3 C K G:Nat}{D:Nat->Bool}{A:Nat->Nat}{i:Nat}{o:Oper}{k:List Item}{rest:List Nat}
def lF(listed:Array Bool):Nat->Bool:=fun i=>listed.getD i false
theorem Sx{listed:Array Bool}{i:Nat}(ak:i<listed.size):lF (listed.setIfInBounds i true)=mU (lF listed) i:=by
 funext j
 unfold lF mU;by_cases h:j=i
 ·subst h;simp[ak]
 ·rw[aZ h];simp[Sq (Ne.symm h)]
theorem aoh{listed:Array Bool}(dF:listed.size=ops.size){i:Nat}(ak:i∈Region.ready .any ops listed):∃o,ops[i]?=some o/\i<ops.size/\lF listed i=false/\∀j,(Oper.ib o).testBit j=true->lF listed j=true:=by
 unfold Region.ready at ak;simp only[List.mem_filter,SZ,gg,sG] at ak;obtain⟨ab,ad,aL⟩:=ak;have b9:i<listed.size:=by omega
 refine⟨ops[i],by simp[ab],ab,by unfold lF;simp[b9] at ad ⊢;exact ad,fun j aY=>?_⟩;unfold Oper.ib at aY;obtain⟨e,he,ai,rfl⟩:=Uq.1 aY;simp only[zf ab,Iv,Ti,aa5] at aL;have:=aL e (by simpa using he);rw[ai] at this;simpa[lF] using this
theorem aoi(hs:uu ops.toList bk){listed:Array Bool}(dF:listed.size=ops.size):∀m,m<ops.size->lF listed m=false->Region.ready .any ops listed≠[]:=by
 intro m;induction m using Nat.strongRecOn with
 |ind m aP=>
  intro hm al;by_cases nd:∀j,(Oper.ib ops[m]).testBit j=true->lF listed j=true
  ·intro Pc;have:m∈Region.ready .any ops listed:=by
    unfold Region.ready;simp only[List.mem_filter,SZ,gg,sG];refine⟨hm,?_,?_⟩
    ·have b9:m<listed.size:=by omega
     unfold lF at al;simp[b9] at al ⊢;exact al
    ·simp only[zf hm,Iv,Ti,aa5];intro e he;cases ai:Region.binds .any e with
     |false=>rfl
     |true=>
      have:=nd e.on (Uq.2 ⟨e,by simpa using he,ai,rfl⟩);simpa[lF] using this
   rw[Pc] at this;cases this
  ·simp only[Classical.not_forall] at nd;obtain⟨j,aY,ain⟩:=nd;have b9:=hs.down m ops[m] j (by simp[hm]) aY
   exact aP j b9 (by omega) (by cases h:lF listed j with
    |false=>rfl
    |true=>exact absurd h ain)
theorem aeg{listed:Array Bool}(h:listed.toList.count false=0):∀i,i<listed.size->lF listed i=true:=fun i ak=>by
 have aN:=List.count_eq_zero.1 h;unfold lF;cases ai:listed.getD i false with
 |true=>rfl
 |false=>
  exfalso;refine aN ?_;have:listed[i]=false:=by simpa[ak] using ai
  rw[<-this];simp
theorem count_set{listed:Array Bool}{i n:Nat}(ak:i<listed.size)(aA:lF listed i=false)(aD:listed.toList.count false=n+1):(listed.setIfInBounds i true).toList.count false=n:=by
 have ai:listed[i]=false:=by unfold lF at aA;simpa[ak] using aA
 have:(listed.setIfInBounds i true).toList=listed.toList.set i true:=by simp
 rw[this,List.count_set (by simpa using ak)];simp[ai,aD]
theorem agr(nd:∀i,C.testBit i=true->D i=true)(t:Nat):free ops.toList C D t=true:=yf.2 fun⟨j,_,a,b,_,_⟩=>by
 rw[nd j a] at b;cases b
theorem afh(gR:oQ P B w0 call)(mL:vN P B w0 aE)(hs:uu ops.toList bk)(hQ:∀(i:Nat) o,ops.toList[i]?=some o->c3.testBit i=false->yC o.op=false){bB:dd}:
 ∀(fuel tU:Nat) (listed:Array Bool) (aX:List iG) (C K G:Nat) (S:aV) (H:an) (A:Nat->Nat) (μ:bL) (w:World) (tmps:Array Value) (ds:List Deferred) (cs:List Frame),
 Inv P B w0 call aE ops.toList bk c3 ji H0 iq fr jE C K G S H μ w tmps ds cs (lF listed) A->n' ops.toList bk c3 C K G aX=true->c4 P call aE ops.toList aX S H=some bB->
 (aX=[]\/∃i rest,aX=.bD i::rest)->listed.size=ops.size->listed.toList.count false=fuel->
 kq P B w0 ji H0 iq fr jE (lone (bH fr tmps ds (.inRegion ops (Region.linearise.go .any ops fuel tU listed [])::k)) cs w) k bB:=by
 intro fuel;induction fuel with
 |zero=>
  intro tU listed aX C K G S H A μ w tmps ds cs av ao he eQ dF JE;have nd:=aeg JE;have gP:∀i,i<ops.size->C.testBit i=true:=fun i ak=>av.sub i (nd i (by omega));rcases eQ with rfl|⟨i,rest,rfl⟩
  ·have he:some (dd.ok S H)=some bB:=he;injection he with he;subst he
   refine⟨μ,w,tmps,ds,cs,av.h,av.iC,?_,av.zL,av.bG,av.cc,.one RD⟩;refine av.f.conv rfl rfl rfl rfl rfl fun t v q=>vj.2 ⟨agr (fun i ak=>?_) t,q⟩;obtain⟨o,ah⟩:=av.Ew i ak;have:i<ops.toList.length:=(gS.1 ah).1;exact nd i (by simp at this;omega)
  ·exfalso;simp only[n',gg] at ao;have aA:=ao.1.1.1.1.1;unfold fits at aA;rw[kA] at aA;cases ah:ops.toList[i]? with
   |none=>rw[ah] at aA;simp at aA
   |some o=>
    have:i<ops.toList.length:=(gS.1 ah).1;have:=gP i (by simpa using this);simp[this] at aA
 |succ fuel aP=>
  intro tU listed aX C K G S H A μ w tmps ds cs av ao he eQ dF JE;have dQ:Region.ready .any ops listed≠[]:=by
   have:0<listed.toList.count false:=by omega
   rw[List.count_pos_iff] at this;obtain⟨m,hm,e⟩:=List.mem_iff_getElem.1 this;have O5:m<listed.size:=by simpa using hm
   refine aoi hs dF m (by omega) ?_;unfold lF;simp at e;simp[O5,e]
  simp only[Region.linearise.go]
  change kq P B w0 ji H0 iq fr jE (lone (bH fr tmps ds (.inRegion ops (match(Region.ready .any ops listed)[tU % (Region.ready .any ops listed).length]? with
   |some i=>Region.linearise.go .any ops fuel (tU / (Region.ready .any ops listed).length) (listed.setIfInBounds i true) [i]
   |none=>[].reverse)::k)) cs w) k bB
  cases ak:(Region.ready .any ops listed)[tU % (Region.ready .any ops listed).length]? with
  |none=>
   exfalso;have FU:0<(Region.ready .any ops listed).length:=List.length_pos_iff.2 dQ;have b9:=fz tU FU;rw[dX b9] at ak;cases ak
  |some i=>
   simp only
   rw[linearise_go_acc,List.reverse_singleton,abE];obtain⟨o,ah,b9,Cq,pe⟩:=aoh dF (gh ak);have ia:ops.toList[i]?=some o:=by simpa using ah
   have JP:i<listed.size:=by omega
   have J0:(listed.setIfInBounds i true).size=ops.size:=by simpa using dF
   have wB:∀j,C.testBit j=true->K.testBit j=true\/G.testBit j=true:=fun j aY=>by
    have re:sub C (Nat.lor K G)=true:=by
     rcases eQ with rfl|⟨WK,rest,rfl⟩
     ·simp only[n',gg] at ao;exact ao.2
     ·simp only[n',gg] at ao;exact ao.1.1.2
    have:=RG re aY;rw[y9,xJ] at this;exact this
   cases gP:C.testBit i with
   |true=>
    obtain⟨bf,a5,gB,eL,cy,dn,Fj⟩:=aol (k:=k) (rest:=Region.linearise.go .any ops fuel (tU / (Region.ready .any ops listed).length) (listed.setIfInBounds i true) []) gR mL hs av wB gP Cq ah pe;rw[<-Sx JP] at Fj;exact(aP _ _ aX C K G S H A bf a5 gB eL cy Fj ao he eQ J0 (count_set JP Cq JE)).steps dn
   |false=>
    rcases eQ with rfl|⟨WK,rest,rfl⟩
    ·exfalso;simp only[n',gg] at ao;have:=aks ao.1 i (by simpa using b9);rw[gP] at this;cases this
    ·have rb:=ao;simp only[n',gg] at ao;obtain⟨⟨⟨⟨⟨cP,gW⟩,nq⟩,yV⟩,xk⟩,yW⟩:=ao;have aiH:i=WK:=by
      have:=amF nq i o ia;rw[kH] at this;rcases this with q|q|q
      ·rw[gP] at q;cases q
      ·exact q
      ·exfalso;have ajJ:sub (Oper.ib o) C=true:=by
        unfold sub;have:Nat.land (Oper.ib o) C=Oper.ib o:=by
         apply abO
         intro j;rw[Lm];cases aY:(Oper.ib o).testBit j with
         |false=>rfl
         |true=>rw[av.sub j (pe j aY)];rfl
        rw[this];simp
       rw[ajJ] at q;cases q
     subst aiH;rw[kA,ia] at xk;simp only[gg] at xk;have he:Option.rec (motive:=fun _=>Option dd) none (fun o=>iM ops.toList (c4 P call aE ops.toList rest) (one P call aE ops.toList S H o)) (nth ops.toList i)=some bB:=he;rw[kA,ia] at he;have he:iM ops.toList (c4 P call aE ops.toList rest) (one P call aE ops.toList S H o)=some bB:=he;cases mI:one P call aE ops.toList S H o with
     |none=>rw[mI] at he;cases he
     |some cX=>
      rw[mI] at he;cases cX with
      |fO c a0 H1=>
       have he:some (dd.fO c (a0.gone (vg ops.toList)) H1)=some bB:=he;injection he with he;subst he
       exact aok gR mL hs av ah pe mI
      |ok a0 H1=>
       have he:c4 P call aE ops.toList rest a0 H1=some bB:=he;obtain⟨bf,a5,gB,eL,cy,dn,Fj⟩:=aoj (k:=k) (rest:=Region.linearise.go .any ops fuel (tU / (Region.ready .any ops listed).length) (listed.setIfInBounds i true) []) gR mL hs av gP ah pe mI rfl (fun j aY=>RG xk.1 aY) xk.2;rw[<-Sx JP] at Fj;obtain⟨rp,vz,od,aC,H',pH,aK,aH,bJ,dU⟩:=T0 hs hQ rest _ _ a0 H1 A Fj yW he;exact(aP _ _ rp vz _ od aC H' pH bf a5 gB eL cy aK aH bJ dU J0 (count_set JP Cq JE)).steps dn
theorem afK(oz:P.follows .mixedOrders=true)(gR:oQ P B w0 call)(mL:vN P B w0 aE)(h:bX P B w0 μ H w)(aA:hJ P μ S fr tmps ds cs){bB:dd}{id:Nat}(he:wc P call aE ops.toList S H=some bB):
 kq P B w0 μ H S fr cs (lone (bH fr tmps ds (.code (.region id ops true)::k)) cs w) k bB:=by
 unfold wc at he;cases al:B7 ops.toList with
 |false=>rw[al] at he;cases he
 |true=>
  rw[al,b4] at he;unfold B7 at al;simp only[gg] at al;obtain⟨Fz,JH⟩:=al;have hs:=ape Fz;have hQ:∀(i:Nat) o,ops.toList[i]?=some o->(xZ ops.toList 0).testBit i=false->yC o.op=false:=fun i o ah ai=>by
   cases aF:yC o.op with
   |false=>rfl
   |true=>
    have:=acB (k:=0) ah aF;rw[kH,ai] at this;cases this
  refine kq.steps (.one apn) ?_;simp only[Region.schedule,oz,Bool.true_or,Kc];have aG:∀i,Nat.testBit 0 i=false:=fun i=>Nat.zero_testBit i;have tf:∀i,lF (Array.replicate ops.size false) i=false:=fun i=>by
   unfold lF;by_cases ak:i<ops.size
   ·simp[ak]
   ·simp[ak]
  have av:Inv P B w0 call aE ops.toList (B2 ops.toList ops.toList 0) (xZ ops.toList 0) μ H S fr cs 0 0 0 S H μ {w with drawn:=w.drawn+1} tmps ds cs (lF (Array.replicate ops.size false)) (fun _=>0):=by
   refine⟨h.drawn _,?_,Step.refl _ _,jz.refl _ _ aA.tj,rfl,rfl,fun i ak=>?_,fun i ak=>?_,fun i o j ak=>?_,fun i o j ak=>?_,fun i ak=>?_,fun i o ak=>?_,fun i j QU dW ak=>?_⟩
   ·exact aA.conv rfl rfl rfl rfl rfl fun t v q=>(vj.1 q).2
   ·rw[tf] at ak;cases ak
   ·rw[aG] at ak;cases ak
   ·rw[tf] at ak;cases ak
   ·rw[aG] at ak;cases ak
   ·rw[aG] at ak;cases ak
   ·rw[aG] at ak;cases ak
   ·rw[aG] at ak;cases ak
  obtain⟨rp,vz,od,aC,H',pH,aK,aH,bJ,dU⟩:=T0 hs hQ (Hh ops.toList) _ _ S H _ av JH he;unfold Region.linearise;exact afh gR mL hs hQ ops.size _ _ rp vz _ od aC H' pH μ _ tmps ds cs aK aH bJ dU (by simp) (by simp)
end
end
end Go.Cre
namespace Go.Cre
noncomputable section
open Go.RowKit
open Classical
section
variable {P:Program}{B:Nat->Prop}{w0 w:World}{μ ji:bL}{H H0 H' H1:an}{S iq aC a0:aV}{fr:Frame}{tmps:Array Value}{ds:List Deferred}{cs jE:List Frame}{call:eo}{aE:gU}
variable {ops:Array Oper}{l:List Oper}{bk c3 C K G:Nat}{D:Nat->Bool}{A:Nat->Nat}{i:Nat}{o:Oper}{k:List Item}{rest:List Nat}
end
end
end Go.Cre
namespace Go.Cre
noncomputable section
open Go.RowKit
open Classical
section
variable {P:Program}{call:eo}{aE:gU}
end
end
end Go.Cre
namespace Go.Cre
noncomputable section
open Go.RowKit
open Classical
def aba(P:Program)(B:Nat->Prop)(w0:World)(call:eo):Prop:=∀(hV:Nat->Prop) (ie:World),(∀k,B k->hV k)->Kept B w0 ie->oQ P hV ie call
def acb(P:Program)(B:Nat->Prop)(w0:World)(aE:gU):Prop:=∀(hV:Nat->Prop) (ie:World),(∀k,B k->hV k)->Kept B w0 ie->vN P hV ie aE
section
variable {P:Program}{B hV:Nat->Prop}{w0 w a5:World}{μ bf ji:bL}{H H0 H' H1:an}{S iq aC a0:aV}{fr:Frame}{tmps:Array Value}{ds:List Deferred}{cs jE:List Frame}{call:eo}{aE:gU}
variable {ops:Array Oper}{l:List Oper}{bk c3 C K G:Nat}{D:Nat->Bool}{A:Nat->Nat}{i:Nat}{o:Oper}{k:List Item}{rest:List Nat}{ws a m:Nat}{es:List (Nat×Value×Value)}
end
end
end Go.Cre
namespace Go.Cre
noncomputable section
open Go.RowKit
open Classical
section
variable {P:Program}{ops:Array Oper}{L:Lit}{l:List Oper}{bk c3:Nat}{key el:TypeId}{akA:TypeDesc}{es:List (Nat×Value×Value)}{a:Nat}{ab6:aV}{i:Nat}{o:Oper}
end
section
variable {P:Program}{B:Nat->Prop}{w0 au0:World}{ji:bL}{H0 bK arW:an}{iq ab6 fA:aV}{fr:Frame}{jE:List Frame}{call:eo}{aE:gU}
variable {ops:Array Oper}{L:Lit}{l:List Oper}{bk c3:Nat}{key el:TypeId}{akA:TypeDesc}{es:List (Nat×Value×Value)}{a bc:Nat}{k:List Item}
end
end
end Go.Cre
namespace Go.Cre
noncomputable section
open Go.RowKit
structure Reached (P:Program) (B:Nat->Prop) (w0:World) (μ:bL) (H:an) (S:aV) (fr:Frame) (cs:List Frame) (aC:aV) (H':an) (bf:bL) (a5:World) (gB:Array Value) (eL:List Deferred) (cy:List Frame):Prop where
 h:bX P B w0 bf H' a5
 iC:Step μ bf H H'
 f:hJ P bf aC fr gB eL cy
 c:jz S.bG cs cy
 bG:aC.bG=S.bG
 cc:aC.cc=S.cc
def lE(P:Program)(B:Nat->Prop)(w0:World)(μ:bL)(H:an)(S:aV)(fr:Frame)(cs:List Frame)(m:Machine)(k:List Item)(aC:aV)(H':an):Exit->Prop
 |.normal=>∃bf a5 gB eL cy,Reached P B w0 μ H S fr cs aC H' bf a5 gB eL cy/\Steps P m (lone (bH fr gB eL k) cy a5)
 |.exit id=>∃bf a5 gB eL cy kX,Reached P B w0 μ H S fr cs aC H' bf a5 gB eL cy/\exitTo id kX=exitTo id k/\Steps P m (lone (bH fr gB eL (.code (.exit id)::kX)) cy a5)
 |.ret=>∃bf a5 gB eL cy kX,Reached P B w0 μ H S fr cs aC H' bf a5 gB eL cy/\Steps P m (lone (bH fr gB eL (.code .ret::kX)) cy a5)
 |.panic chain=>∃bf a5 gB eL cy EL kX,Reached P B w0 μ H S fr cs aC H' bf a5 gB eL cy/\ig bf chain EL/\Steps P m (lone {bH fr gB eL kX with mode:=.panicking EL} cy a5)
 |_=>False
def xW(c:Code)(it:Item):Prop:=it=.code c\/∃c',c=.loop c'/\it=.inLoop c'
def rB(P:Program)(B:Nat->Prop)(w0:World)(code:Code->aV->an->Option (Exit×aV×an)):Prop:=
 ∀c S H e aC H',code c S H=some (e,aC,H')->∀μ w fr tmps ds cs k it,bX P B w0 μ H w->hJ P μ S fr tmps ds cs->xW c it->lE P B w0 μ H S fr cs (lone (bH fr tmps ds (it::k)) cs w) k aC H' e
section
variable {P:Program}{B:Nat->Prop}{w0 w:World}{μ e2:bL}{H H1 H':an}{S a0 aC:aV}{fr:Frame}{tmps:Array Value}{ds:List Deferred}{cs gj:List Frame}{m m':Machine}{k aU:List Item}{e:Exit}
theorem Reached.trans{jj:bL}{fA:aV}{bK:an}{bt cv:World}{t1 t2:Array Value}{d1 d2:List Deferred}{EP:List Frame}(h:Reached P B w0 μ H S fr cs a0 H1 e2 bt t1 d1 gj)(q:Reached P B w0 e2 H1 a0 fr gj fA bK jj cv t2 d2 EP):
 Reached P B w0 μ H S fr cs fA bK jj cv t2 d2 EP:=
 ⟨q.h,h.iC.trans q.iC,q.f,h.c.trans (h.bG▸q.c),q.bG.trans h.bG,q.cc.trans h.cc⟩
theorem Reached.refl(h:bX P B w0 μ H w)(aA:hJ P μ S fr tmps ds cs):Reached P B w0 μ H S fr cs S H μ w tmps ds cs:=
 ⟨h,Step.refl _ _,aA,jz.refl _ _ aA.tj,rfl,rfl⟩
theorem lE.steps(hs:Steps P m m')(h:lE P B w0 μ H S fr cs m' k aC H' e):lE P B w0 μ H S fr cs m k aC H' e:=by
 cases e with
 |normal=>obtain⟨a7,bc,cu,c9,cI,ee,fh⟩:=h;exact⟨a7,bc,cu,c9,cI,ee,hs.trans fh⟩
 |exit id=>obtain⟨a7,bc,cu,c9,cI,ee,fh,j7,nI⟩:=h;exact⟨a7,bc,cu,c9,cI,ee,fh,j7,hs.trans nI⟩
 |ret=>obtain⟨a7,bc,cu,c9,cI,ee,fh,j7⟩:=h;exact⟨a7,bc,cu,c9,cI,ee,fh,hs.trans j7⟩
 |panic bk=>obtain⟨a7,bc,cu,c9,cI,ee,fh,j7,nI,rL⟩:=h;exact⟨a7,bc,cu,c9,cI,ee,fh,j7,nI,hs.trans rL⟩
 |goto l=>exact h
 |outgrown=>exact h
theorem lE.after{bt:World}{t1:Array Value}{d1:List Deferred}(aq:Reached P B w0 μ H S fr cs a0 H1 e2 bt t1 d1 gj)(h:lE P B w0 e2 H1 a0 fr gj m k aC H' e):lE P B w0 μ H S fr cs m k aC H' e:=by
 cases e with
 |normal=>obtain⟨a7,bc,cu,c9,cI,ee,fh⟩:=h;exact⟨a7,bc,cu,c9,cI,aq.trans ee,fh⟩
 |exit id=>obtain⟨a7,bc,cu,c9,cI,ee,fh,j7,nI⟩:=h;exact⟨a7,bc,cu,c9,cI,ee,aq.trans fh,j7,nI⟩
 |ret=>obtain⟨a7,bc,cu,c9,cI,ee,fh,j7⟩:=h;exact⟨a7,bc,cu,c9,cI,ee,aq.trans fh,j7⟩
 |panic bk=>obtain⟨a7,bc,cu,c9,cI,ee,fh,j7,nI,rL⟩:=h;exact⟨a7,bc,cu,c9,cI,ee,fh,aq.trans j7,nI,rL⟩
 |goto l=>exact h
 |outgrown=>exact h
theorem lE.bind(h:lE P B w0 μ H S fr cs m aU a0 H1 .normal)
 (hk:∀e2 bt t1 d1 gj,Reached P B w0 μ H S fr cs a0 H1 e2 bt t1 d1 gj->lE P B w0 e2 H1 a0 fr gj (lone (bH fr t1 d1 aU) gj bt) k aC H' e):lE P B w0 μ H S fr cs m k aC H' e:=by
 obtain⟨e2,bt,t1,d1,gj,aq,dn⟩:=h;exact((hk e2 bt t1 d1 gj aq).after aq).steps dn
theorem lE.pass{x:Item}(U:∀id,e=.exit id->exitTo id (x::k)=exitTo id k)(az:e≠.normal)(h:lE P B w0 μ H S fr cs m (x::k) aC H' e):lE P B w0 μ H S fr cs m k aC H' e:=by
 cases e with
 |normal=>exact absurd rfl az
 |exit id=>obtain⟨a7,bc,cu,c9,cI,ee,fh,j7,nI⟩:=h;exact⟨a7,bc,cu,c9,cI,ee,fh,j7.trans (U id rfl),nI⟩
 |ret=>exact h
 |panic bk=>exact h
 |goto l=>exact h
 |outgrown=>exact h
theorem Ri{bB:dd}(he:qp (some bB)=some (e,aC,H'))(h:kq P B w0 μ H S fr cs m k bB):lE P B w0 μ H S fr cs m k aC H' e:=by
 cases bB with
 |ok a0 H1=>
  simp only[qp,cl,dm] at he;obtain⟨rfl,rfl,rfl⟩:=he;obtain⟨a,b,c,d,x,bY,bZ,cz,fu,fM,gN,gp⟩:=h;exact⟨a,b,c,d,x,⟨bY,bZ,cz,fu,fM,gN⟩,gp⟩
 |fO bk a0 H1=>
  simp only[qp,cl,dm] at he;obtain⟨rfl,rfl,rfl⟩:=he;obtain⟨a,b,c,d,x,y,z,bY,bZ,cz,fu,fM,gN,gp,ov⟩:=h;exact⟨a,b,c,d,x,y,z,⟨bY,bZ,cz,fu,fM,gN⟩,gp,ov⟩
theorem ZD{E:fv}{b:Code}{r:Option (Exit×aV×an)}{x:Item}(aD:rB P B w0 E.code)(dn:xW b x)(U:∀id,exitTo id (x::k)=exitTo id k)
 (aq:∀aw a0 H1,r=some (aw,a0,H1)->lE P B w0 μ H S fr cs m (x::k) a0 H1 aw)(he:EJ E b r=some (e,aC,H')):lE P B w0 μ H S fr cs m k aC H' e:=by
 cases r with
 |none=>cases he
 |some p=>
  obtain⟨aw,a0,H1⟩:=p;have ab:=aq aw a0 H1 rfl;by_cases az:aw=.normal
  ·subst az;have he:E.code b a0 H1=some (e,aC,H'):=he;exact ab.bind fun e2 bt t1 d1 gj lr=>aD b a0 H1 e aC H' he e2 bt fr t1 d1 gj k x lr.h lr.f dn
  ·have he:some (aw,a0,H1)=some (e,aC,H'):=by
    cases aw<;>first|exact absurd rfl az|exact he
   simp only[cl,dm] at he;obtain⟨rfl,rfl,rfl⟩:=he;exact ab.pass (fun id _=>U id) az
def Tm(P:Program)(B:Nat->Prop)(w0:World)(E:fv):Prop:=
 ∀f params assign body S H e aC H',Ce P E f params assign body S H=some (e,aC,H')->∀μ w fr tmps ds cs k,bX P B w0 μ H w->hJ P μ S fr tmps ds cs->
  lE P B w0 μ H S fr cs (lone (bH fr tmps ds (.code (.rangeFunc f params assign body)::k)) cs w) k aC H' e
theorem UA{E:fv}(oz:P.follows .mixedOrders=true)(aD:rB P B w0 E.code)(aid:aba P B w0 E.call)(aj7:acb P B w0 E.aE)(ajo:Tm P B w0 E):rB P B w0 (I4 P E):=by
 have gR:=aid B w0 (fun _ h=>h) (Kept.refl _ _);have mL:=aj7 B w0 (fun _ h=>h) (Kept.refl _ _);intro c S H e aC H' he μ w fr tmps ds cs k it h aA dn;have r5:(∀c',c≠.loop c')->it=.code c:=fun dE=>by
  rcases dn with q|⟨c',q,_⟩
  ·exact q
  ·exact absurd q (dE c')
 unfold I4 at he;cases c with
 |skip=>
  obtain rfl:=r5 (fun _ q=>by cases q);have he:some (Exit.normal,S,H)=some (e,aC,H'):=he;simp only[cl,dm] at he;obtain⟨rfl,rfl,rfl⟩:=he;exact⟨μ,w,tmps,ds,cs,.refl h aA,.one apE⟩
 |label l=>
  obtain rfl:=r5 (fun _ q=>by cases q);have he:some (Exit.normal,S,H)=some (e,aC,H'):=he;simp only[cl,dm] at he;obtain⟨rfl,rfl,rfl⟩:=he;exact⟨μ,w,tmps,ds,cs,.refl h aA,.one apt⟩
 |exit id=>
  obtain rfl:=r5 (fun _ q=>by cases q);have he:some (Exit.exit id,S,H)=some (e,aC,H'):=he;simp only[cl,dm] at he;obtain⟨rfl,rfl,rfl⟩:=he;exact⟨μ,w,tmps,ds,cs,k,.refl h aA,rfl,.refl P _⟩
 |ret=>
  obtain rfl:=r5 (fun _ q=>by cases q);have he:some (Exit.ret,S,H)=some (e,aC,H'):=he;simp only[cl,dm] at he;obtain⟨rfl,rfl,rfl⟩:=he;exact⟨μ,w,tmps,ds,cs,k,.refl h aA,.refl P _⟩
 |goto l=>cases he
 |refuse auY=>cases he
 |region id ops d=>
  obtain rfl:=r5 (fun _ q=>by cases q);cases d with
  |false=>
   have he:qp (Cd P E.call E.aE ops.toList ops.toList S H)=some (e,aC,H'):=he;cases aq:Cd P E.call E.aE ops.toList ops.toList S H with
   |none=>rw[aq] at he;cases he
   |some bB=>
    rw[aq] at he;have:=afU (k:=k) (fr:=fr) gR mL ops.toList 0 μ w S H tmps ds cs bB (by simp) h aA aq;have aw:List.range' 0 ops.toList.length=List.range ops.size:=by rw[abB];simp
    rw[aw] at this;exact(Ri he this).steps (.one Z1)
  |true=>
   have he:qp (uI P E.call E.aE ops.toList S H)=some (e,aC,H'):=he;cases aq:uI P E.call E.aE ops.toList S H with
   |none=>rw[aq] at he;cases he
   |some bB=>
    rw[aq] at he;refine Ri he ?_;unfold uI at aq;cases ap:Gv ops.toList with
    |none=>rw[ap] at aq;exact afK oz gR mL h aA aq
    |some L=>rw[ap] at aq;cases aq
 |seq a b=>
  obtain rfl:=r5 (fun _ q=>by cases q);have he:EJ E b (E.code a S H)=some (e,aC,H'):=he;exact ZD aD (.inl rfl) (fun id=>rfl) (fun aw a0 H1 q=>(aD a S H aw a0 H1 q μ w fr tmps ds cs (.code b::k) (.code a) h aA (.inl rfl)).steps (.one RE)) he
 |cond x a b=>
  obtain rfl:=r5 (fun _ q=>by cases q);have he:IU E S H a b (a1 S.T H x)=some (e,aC,H'):=he;cases U:a1 S.T H x with
  |none=>rw[U] at he;cases he
  |some v=>
   rw[U] at he;have ar:=tL h aA.t U;cases v with
   |bool t=>
    have ai:=ar.Ev;cases t with
    |true=>
     have he:E.code a S H=some (e,aC,H'):=he;exact(aD a S H e aC H' he μ w fr tmps ds cs k (.code a) h aA (.inl rfl)).steps (.one (ZX ai))
    |false=>
     have he:E.code b S H=some (e,aC,H'):=he;exact(aD b S H e aC H' he μ w fr tmps ds cs k (.code b) h aA (.inl rfl)).steps (.one (ZX ai))
   |_=>cases he
 |block id c=>
  obtain rfl:=r5 (fun _ q=>by cases q);have he:MR id (E.code c S H)=some (e,aC,H'):=he;cases aq:E.code c S H with
  |none=>rw[aq] at he;cases he
  |some p=>
   obtain⟨aw,a0,H1⟩:=p;rw[aq] at he;have ab:=(aD c S H aw a0 H1 aq μ w fr tmps ds cs (.inBlock id::k) (.code c) h aA (.inl rfl)).steps (.one (apl (P:=P)));cases aw with
   |exit lR=>
    have he:(bif Nat.beq lR id then some (Exit.normal,a0,H1) else some (Exit.exit lR,a0,H1))=some (e,aC,H'):=he;obtain⟨a7,bc,cu,c9,cI,ee,fh,j7,nI⟩:=ab;cases ai:Nat.beq lR id with
    |true=>
     rw[ai,b4] at he;simp only[cl,dm] at he;obtain⟨rfl,rfl,rfl⟩:=he;obtain rfl:=eb ai;have aw:exitTo lR (.inBlock lR::k)=some k:=by simp[exitTo]
     exact⟨a7,bc,cu,c9,cI,fh,nI.trans (.one (apq (j7.trans aw)))⟩
    |false=>
     rw[ai,da] at he;simp only[cl,dm] at he;obtain⟨rfl,rfl,rfl⟩:=he;have dQ:¬id=lR:=fun q=>by subst q;simp at ai
     have aw:exitTo lR (.inBlock id::k)=exitTo lR k:=by simp[exitTo,dQ]
     exact⟨a7,bc,cu,c9,cI,ee,fh,j7.trans aw,nI⟩
   |normal=>
    have he:some (Exit.normal,a0,H1)=some (e,aC,H'):=he;simp only[cl,dm] at he;obtain⟨rfl,rfl,rfl⟩:=he;obtain⟨a7,bc,cu,c9,cI,ee,fh⟩:=ab;exact⟨a7,bc,cu,c9,cI,ee,fh.trans (.one apr)⟩
   |goto l=>exact ab.elim
   |ret=>
    have he:some (Exit.ret,a0,H1)=some (e,aC,H'):=he;simp only[cl,dm] at he;obtain⟨rfl,rfl,rfl⟩:=he;exact ab.pass (fun id q=>by cases q) (fun q=>by cases q)
   |panic bk=>
    have he:some (Exit.panic bk,a0,H1)=some (e,aC,H'):=he;simp only[cl,dm] at he;obtain⟨rfl,rfl,rfl⟩:=he;exact ab.pass (fun id q=>by cases q) (fun q=>by cases q)
   |outgrown=>exact ab.elim
 |loop c=>
  have he:EJ E (.loop c) (E.code c S H)=some (e,aC,H'):=he;have bb:step P (lone (bH fr tmps ds (it::k)) cs w)=.next (lone (bH fr tmps ds (.code c::.inLoop c::k)) cs w):=by
   rcases dn with rfl|⟨c',q,rfl⟩
   ·exact Z0
   ·injection q with q;subst q;exact ZZ
  exact ZD aD (.inr ⟨c,rfl,rfl⟩) (fun id=>rfl) (fun aw a0 H1 q=>(aD c S H aw a0 H1 q μ w fr tmps ds cs (.inLoop c::k) (.code c) h aA (.inl rfl)).steps (.one bb)) he
 |scope c=>
  obtain rfl:=r5 (fun _ q=>by cases q);have he:TV (E.code c S H)=some (e,aC,H'):=he;cases aq:E.code c S H with
  |none=>rw[aq] at he;cases he
  |some p=>
   obtain⟨aw,a0,H1⟩:=p;rw[aq] at he;have ab:=(aD c S H aw a0 H1 aq μ w fr tmps ds cs (.inScope c::k) (.code c) h aA (.inl rfl)).steps (.one (apD (P:=P)));have he:some (aw,a0,H1)=some (e,aC,H'):=by cases aw<;>first|exact he|exact ab.elim
   simp only[cl,dm] at he;obtain⟨rfl,rfl,rfl⟩:=he;by_cases az:aw=.normal
   ·subst az;obtain⟨a7,bc,cu,c9,cI,ee,fh⟩:=ab;exact⟨a7,bc,cu,c9,cI,ee,fh.trans (.one aps)⟩
   ·exact ab.pass (fun id _=>rfl) az
 |rangeFunc f params assign body=>
  obtain rfl:=r5 (fun _ q=>by cases q);have he:Ce P E f params assign body S H=some (e,aC,H'):=he;exact ajo f params assign body S H e aC H' he μ w fr tmps ds cs k h aA
end
end
end Go.Cre
namespace Go.Cre
noncomputable section
open Go.RowKit
section
variable {P:Program}{B:Nat->Prop}{w0 w:World}{μ e2 bf:bL}{H H1 H':an}{S a0 aC:aV}{fr:Frame}{tmps:Array Value}{ds:List Deferred}{cs gj:List Frame}
def Hm (tmps:Array Value):ResultVar->Sem Value
 |.tmp t=>pure (tmps.getD t undef)
 |.cell a t=>do loadVar t (<-asAddr (tmps.getD a undef))
theorem afX(h:bX P B w0 μ H w){T:aW Value}{n:Nat}(aJ:jU μ T n tmps):∀{l:List ResultVar} {vs:List Value},pZ P T H l=some vs->
 ∃mT,(l.mapM (Hm tmps)).run P w=.ok mT w/\bT μ vs mT:=by
 intro l;induction l with
 |nil=>intro vs he;simp[pZ] at he;subst he;exact⟨[],by simp,bT.nil _⟩
 |cons x l aP=>
  intro vs he;cases x with
  |tmp t=>
   simp only[pZ] at he;cases b1:T.get t with
   |none=>rw[b1] at he;cases he
   |some u=>
    rw[b1] at he;cases ap:pZ P T H l with
    |none=>rw[ap] at he;cases he
    |some r=>
     rw[ap] at he;injection he with he;subst he
     obtain⟨mT,a,b⟩:=aP ap;refine⟨tmps.getD t undef::mT,?_,bT.cons (aJ.2 t u b1) b⟩;rw[SU];have e:Hm tmps (.tmp t)=pure (tmps.getD t undef):=rfl;rw[e];simp only[Sem.run_bind,Sem.run_pure,Result.andThen,a]
  |cell c t=>
   simp only[pZ] at he;cases b1:T.get c with
   |none=>rw[b1] at he;cases he
   |some u=>
    rw[b1] at he;simp only at he;cases ar:zU P H t u with
    |none=>rw[ar] at he;cases he
    |some v=>
     rw[ar] at he;cases ap:pZ P T H l with
     |none=>rw[ap] at he;cases he
     |some r=>
      rw[ap] at he;injection he with he;subst he
      obtain⟨mT,a,b⟩:=aP ap;have hu:=aJ.2 c u b1;unfold zU at ar;cases u with
      |pointer p=>
       cases p with
       |none=>cases ar
       |some p=>
        obtain⟨id,off,L,rfl,a4,bI⟩:=hu.oK;simp only at ar;obtain⟨v',ab,ad⟩:=UB h a4 ar;refine⟨v'::mT,?_,bT.cons ad b⟩;rw[SU];have e:(Hm tmps (.cell c t)).run P w=.ok v' w:=by
         show(do loadVar t (<-asAddr (tmps.getD c undef)):Sem Value).run P w=_;rw[bI];simp[asAddr,ab]
        simp only[Sem.run_bind,e,Result.andThen,a,Sem.run_pure]
      |_=>cases ar
theorem aot(h:bX P B w0 μ H w){T:aW Value}{n:Nat}(aJ:jU μ T n tmps){fn:Func}{vs:List Value}(he:pZ P T H fn.results.toList=some vs):
 ∃v',(results fn tmps).run P w=.ok v' w/\bg μ (ql vs) v':=by
 obtain⟨mT,a,b⟩:=afX h aJ he;have hm:(fn.results.mapM (Hm tmps)).run P w=.ok mT.toArray w:=by
  rw[aa9];simp[a]
 have aq:results fn tmps=(do let vs <-fn.results.mapM (Hm tmps);pure (if h:vs.size=1 then vs[0] else .tuple vs)):=by
  unfold results;congr 2
 rw[aq];simp only[Sem.run_bind,hm,Result.andThen,Sem.run_pure];refine⟨_,rfl,?_⟩;by_cases ab:mT.length=1
 ·have ad:vs.length=1:=b.1.trans ab;obtain⟨v,rfl⟩:=abz.1 ad;obtain⟨v',rfl⟩:=abz.1 ab;simpa[ql] using b.2 0 v v' rfl rfl
 ·have ad:vs.length≠1:=fun q=>ab (b.1.symm.trans q);have e:ql vs=.tuple vs.toArray:=by
   unfold ql;split
   ·simp at ad
   ·rfl
  rw[e];have:¬mT.toArray.size=1:=by simpa using ab
  rw[dif_neg this];exact bg.RP b
theorem ig.kz{c':List PanicEntry}(h:ig μ [] c'):c'=[]:=kn h.1.symm
theorem ig.iZ{x:PanicEntry}{c c':List PanicEntry}(h:ig μ (x::c) c'):∃dv d,c'=dv::d/\dv.recovered=x.recovered/\dv.goexit=x.goexit/\bg μ x.v dv.v/\ig μ c d:=by
 cases c' with
 |nil=>have:=h.1;simp at this
 |cons dv d=>
  obtain⟨a,b,e⟩:=h.2 0 x dv rfl rfl;exact⟨dv,d,rfl,a,b,e,by have:=h.1;simpa using this,fun i p q ao bI=>h.2 (i+1) p q (by simpa using ao) (by simpa using bI)⟩
theorem ig.nil(μ:bL):ig μ [] []:=⟨rfl,fun i e bC h=>by simp at h⟩
theorem ig.cons{x dv:PanicEntry}{c c':List PanicEntry}(ab:dv.recovered=x.recovered)(ad:dv.goexit=x.goexit)(aL:bg μ x.v dv.v)(h:ig μ c c'):ig μ (x::c) (dv::c'):=
 ⟨by simp[h.1],fun i p q ao bI=>by
  cases i with
  |zero=>simp at ao bI;subst ao;subst bI;exact⟨ab,ad,aL⟩
  |succ i=>exact h.2 i p q (by simpa using ao) (by simpa using bI)⟩
theorem ig.append{a bO b b':List PanicEntry}(h:ig μ a bO)(k:ig μ b b'):ig μ (a++b) (bO++b'):=by
 induction a generalizing bO with
 |nil=>obtain rfl:=h.kz;exact k
 |cons x a aP=>obtain⟨dv,d,rfl,ab,ad,aL,a6⟩:=h.iZ;exact .cons ab ad aL (aP a6)
theorem ig.dropWhile{a bO:List PanicEntry}(h:ig μ a bO):ig μ (a.dropWhile (!·.goexit)) (bO.dropWhile (!·.goexit)):=by
 induction a generalizing bO with
 |nil=>obtain rfl:=h.kz;exact .nil _
 |cons x a aP=>
  obtain⟨dv,d,rfl,ab,ad,aL,a6⟩:=h.iZ;simp only[List.dropWhile,ad];cases x.goexit with
  |true=>exact h
  |false=>exact aP a6
theorem aoW{u h5:FrameMode}(h:oY μ u h5):oY μ (settle u) (settle h5):=by
 cases u with
 |run=>cases h5<;>first|exact h.elim|trivial
 |returning=>cases h5<;>first|exact h.elim|trivial
 |panicking c=>
  cases h5 with
  |run=>exact h.elim
  |returning=>exact h.elim
  |panicking c'=>
   have h:ig μ c c':=h;cases c with
   |nil=>obtain rfl:=h.kz;exact h
   |cons x c=>
    obtain⟨dv,d,rfl,ab,ad,aL,a6⟩:=h.iZ;obtain⟨Bt,arB,arz⟩:=x;obtain⟨Sd,Sc,aaZ⟩:=dv;simp only at ab ad aL;subst ab;subst ad;cases Sc with
    |false=>exact h
    |true=>
     have al:=a6.dropWhile;simp only[settle];cases bI:c.dropWhile (!·.goexit) with
     |nil=>rw[bI] at al;rw[al.kz];trivial
     |cons y r=>
      rw[bI] at al;obtain⟨mv,ch,e,_⟩:=al.iZ;rw[e] at al ⊢;exact al
theorem an6{u h5:FrameMode}{c c':List PanicEntry}(h:oY μ u h5)(aD:ig μ c c'):oY μ (raised u c) (raised h5 c'):=by
 cases u with
 |run=>cases h5<;>first|exact h.elim|exact aD
 |returning=>cases h5<;>first|exact h.elim|exact aD
 |panicking d=>
  cases h5 with
  |run=>exact h.elim
  |returning=>exact h.elim
  |panicking kN=>exact aD.append h
theorem aoV{u:FrameMode}(h:u≠.run):settle u≠.run:=by
 unfold settle;split
 ·split<;>(intro q;cases q)
 ·exact h
theorem an5{u:FrameMode}{c:List PanicEntry}:raised u c≠.run:=by
 unfold raised;split<;>(intro q;cases q)
theorem afP{E:fv}{fn:Func}{T:aW Value}{fx:List Deferred}{r:Ending×an}(h:g8 P E fn T fx .run H=some r):False:=by
 cases fx with
 |nil=>simp[g8] at h
 |cons d l=>simp[g8,Gn] at h
def ud(P:Program)(B:Nat->Prop)(w0:World)(body:FuncId->List Value->Bool->FrameMode->an->Option (Ending×FrameMode×an)):Prop:=
 ∀f args bd H e gv H',body f args true bd H=some (e,gv,H')->∀μ w bP,bX P B w0 μ H w->bT μ args bP->
  (callFunc f bP.toArray).run P w=.ok (.enter f bP.toArray) w/\
  ∀(c:Frame) (cs:List Frame),oY μ bd c.mode->∃bf a5 bC h5 fr,bX P B w0 bf H' a5/\Step μ bf H H'/\zi bf e bC/\oY bf gv h5/\
   Steps P (lone (Frame.enter P f bP.toArray .deferred) (c::cs) w) (lone fr ({c with mode:=h5}::cs) a5)/\fr.kind=.deferred/\fr.going P a5 bC
theorem afQ{E:fv}(z':ud P B w0 E.body){fn:Func}{T:aW Value}{n:Nat}:∀(fx:List Deferred) (u:FrameMode) (H:an) (e:Ending) (H':an),g8 P E fn T fx u H=some (e,H')->
 ∀(μ:bL) (w:World) (fr:Frame) (cs:List Frame),bX P B w0 μ H w->jU μ T n fr.tmps->sI μ fx fr.defers->oY μ u fr.mode->u≠.run->P.funcs[fr.fn]?=some fn->
 ∃bf a5 bC m9,bX P B w0 bf H' a5/\Step μ bf H H'/\zi bf e bC/\Steps P (lone fr cs w) (lone m9 cs a5)/\m9.kind=fr.kind/\m9.fn=fr.fn/\m9.going P a5 bC:=by
 intro fx;induction fx with
 |nil=>
  intro u H e H' he μ w fr cs h aJ al hm hu aA;cases ix:fr.defers with
  |cons d l=>rw[ix] at al;cases al
  |nil=>
   cases u with
   |run=>exact absurd rfl hu
   |returning=>
    have FO:fr.mode=.returning:=by cases bI:fr.mode<;>rw[bI] at hm<;>first|rfl|exact hm.elim
    simp only[g8] at he;cases aq:pZ P T H fn.results.toList with
    |none=>rw[aq] at he;cases he
    |some vs=>
     rw[aq] at he;simp only[cl,dm] at he;obtain⟨rfl,rfl⟩:=he;obtain⟨v',a,b⟩:=aot h aJ aq;exact⟨μ,w,.returned v',fr,h,Step.refl _ _,b,.refl P _,rfl,rfl,FO,ix,fn,aA,a⟩
   |panicking c=>
    cases bI:fr.mode with
    |run=>rw[bI] at hm;exact hm.elim
    |returning=>rw[bI] at hm;exact hm.elim
    |panicking c'=>
     rw[bI] at hm;simp only[g8,cl,dm] at he;obtain⟨rfl,rfl⟩:=he;exact⟨μ,w,.panicked c',fr,h,Step.refl _ _,hm,.refl P _,rfl,rfl,bI,ix,fn,aA⟩
 |cons d fx aP=>
  intro u H e H' he μ w fr cs h aJ al hm hu aA;have gG:fr.mode≠.run:=fun q=>by rw[q] at hm;cases u<;>first|exact hu rfl|exact hm.elim
  cases ix:fr.defers with
  |nil=>rw[ix] at al;cases al
  |cons kN eL=>
   rw[ix] at al;cases al with
   |cons _ _ _ _ ail q5=>
   simp only[g8] at he;have Aj:Gn u=false:=by cases u<;>first|exact absurd rfl hu|rfl
   rw[Aj,da] at he;rcases ail with⟨kv,cap,dT,t1,t2,t3,t4,t5⟩|⟨r,L,t1,t2,t3⟩
   ·rw[t1] at he;simp only at he;cases CD:jG P H kv d.args.toList cap.toList with
    |none=>rw[CD] at he;cases he
    |some p=>
     obtain⟨f,args⟩:=p;rw[CD] at he;simp only at he;obtain⟨iu,a7,bc⟩:=Nz (w:=w) t5 t4 CD;cases ai:E.body f args true u H with
     |none=>rw[ai] at he;cases he
     |some q=>
      obtain⟨aw,gv,H1⟩:=q;rw[ai] at he;obtain⟨bs,bM⟩:=z' f args u H aw gv H1 ai μ w iu h bc;have hinv:(invoke kN.target kN.args).run P w=.ok (.enter f iu.toArray) w:=by
       rw[t2];have aw:dT.toList.toArray=dT:=by simp
       have aR:kN.args.toList.toArray=kN.args:=by simp
       rw[aw,aR] at a7;rw[a7];exact bs
      have ab:=step_defer (cs:=cs) gG ix t2 hinv;obtain⟨e2,bt,wa,h5,asL,bp,bN,cN,e',gz,eu,fB⟩:=bM {fr with defers:=eL} cs hm;have atm:gv≠.run->h5≠.run:=fun q dj=>by rw[dj] at e';cases gv<;>first|exact q rfl|exact e'.elim
      cases aw with
      |outgrown=>cases he
      |returned v=>
       cases wa with
       |returned v'=>
        simp only at he;by_cases Wr:gv=.run
        ·exfalso;rw[Wr] at he
         --a running frame asB not leave
         have:settle FrameMode.run=.run:=rfl;rw[this] at he;exact(afP (P:=P) (E:=E) he).elim
        have ad:=step_going_returned (P:=P) (c:={{fr with defers:=eL} with mode:=h5}) (cs:=cs) eu fB;obtain⟨jj,cv,aR,zY,bY,bZ,cz,fu,fM,gN,gp⟩:=aP (settle gv) H1 e H' he e2 bt {{{fr with defers:=eL} with mode:=h5} with mode:=settle h5} cs bp (aJ.mono bN.ext) (q5.mono bN.ext) (aoW e') (aoV Wr) aA;exact⟨jj,cv,aR,zY,bY,bN.trans bZ,cz,(Steps.head ab (Steps.trans gz (.one ad))).trans fu,fM,gN,gp⟩
       |panicked c=>exact cN.elim
       |outgrown=>exact cN.elim
      |panicked bk=>
       cases wa with
       |returned v'=>exact cN.elim
       |outgrown=>exact cN.elim
       |panicked vW=>
        simp only at he;have ad:=step_going_panicked (P:=P) (c:={{fr with defers:=eL} with mode:=h5}) (cs:=cs) fB;obtain⟨jj,cv,aR,zY,bY,bZ,cz,fu,fM,gN,gp⟩:=aP (raised gv bk) H1 e H' he e2 bt {{{fr with defers:=eL} with mode:=h5} with mode:=raised h5 vW} cs bp (aJ.mono bN.ext) (q5.mono bN.ext) (an6 e' cN) an5 aA;exact⟨jj,cv,aR,zY,bY,bN.trans bZ,cz,(Steps.head ab (Steps.trans gz (.one ad))).trans fu,fM,gN,gp⟩
   ·rw[t1] at he;simp only at he;cases wM:H.mem.get r with
    |none=>rw[wM] at he;cases he
    |some b=>
     rw[wM] at he;cases b with
     |gk o=>
      cases o with
      |none=>cases he
      |some l=>
       cases l with
       |cons x y=>cases he
       |nil=>
        simp only at he;cases ax:Nat.ble H.bz r with
        |false=>rw[ax] at he;cases he
        |true=>
         rw[ax,b4] at he;have ax:=hv ax;cases F4:H.upd r (.gk none) with
         |none=>rw[F4] at he;cases he
         |some H1=>
          rw[F4] at he;obtain⟨gi,amk,aK,aH,bJ⟩:=h.fS r L t2;rw[wM] at aK;injection aK with aK;subst aK
          cases amk with
          |deferred zO=>
           obtain⟨rfl,_⟩:=bJ;obtain⟨bp,bN⟩:=h.aaX t2 ax wM (fun _ _ _ _ _ _ q=>by cases q) (fun q=>by cases q) F4 (fun _ _ _ _ _ _ q=>by cases q) (o':=.deferred none) (b':=.gk none) ⟨rfl,.inr rfl⟩;have Wp:(Instr.takeDeferred L.r).run P w=.ok [] {w with heap:=w.heap.setIfInBounds L.r (.deferred none)}:=by
            simp[Instr.takeDeferred,getObj,setObj,Sem.run,aH]
           have ab:step P (lone fr cs w)=.next (lone {fr with defers:=eL} cs {w with heap:=w.heap.setIfInBounds L.r (.deferred none)}):=by
            refine step_lone_go ?_;obtain⟨B8,asz⟩:=kN;simp only at t3;subst t3;cases FO:fr.mode with
            |run=>exact absurd FO gG
            |returning=>simp[stepG,unwind,FO,ix,Wp]
            |panicking bk=>simp[stepG,unwind,FO,ix,Wp]
           obtain⟨jj,cv,aR,zY,bY,bZ,cz,fu,fM,gN,gp⟩:=aP u H1 e H' he μ _ {fr with defers:=eL} cs bp aJ q5 hm hu aA;exact⟨jj,cv,aR,zY,bY,bN.trans bZ,cz,.head ab fu,fM,gN,gp⟩
          |_=>exact bJ.elim
     |_=>cases he
end
end
end Go.Cre

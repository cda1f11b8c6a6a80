/- A part of the proof of ResumeBack. -/
import Derived.Test.YtiemfjdacfioeaaGreatDoorCal
import Derived.Laws.Sem
set_option linter.unusedVariables false
set_option linter.unusedSimpArgs false
namespace Go.Cre
noncomputable section
open Go.RowKit
open Classical
section
variable {P:Program}{B:Nat->Prop}{w0 w:World}{μ jW:b1}{H H0 H' H1:aB}{S jt aS bq:bi}{fr:Frame}{tmps:Array Value}{ds:List Deferred}{cs je:List Frame}{call:eH}{aR:gR}
variable {ops:Array Oper}{bU cg C K G:Nat}{D:Nat->Bool}{A:Nat->Nat}{i:Nat}{o:Oper}{k:List Item}{rest:List Nat}
def lM(listed:Array Bool):Nat->Bool:=fun i=>listed.getD i false
theorem RY{listed:Array Bool}{i:Nat}(ao:i<listed.size):lM (listed.setIfInBounds i true)=np (lM listed) i:=by
 funext j
 unfold lM np;by_cases h:j=i
 ·subst h;simp[ao]
 ·rw[ap h];simp[aap (Ne.symm h)]
theorem amS{listed:Array Bool}(eU:listed.size=ops.size){i:Nat}(ao:i∈Region.ready .any ops listed):∃o,ops[i]?=some o/\i<ops.size/\lM listed i=false/\∀j,(Oper.fL o).testBit j=true->lM listed j=true:=by
 unfold Region.ready at ao;simp only[List.mem_filter,Sl,fU,qL] at ao;obtain⟨aa,ae,aG⟩:=ao;have c4:i<listed.size:=by omega
 refine⟨ops[i],by simp[aa],aa,by unfold lM;simp[c4] at ae ⊢;exact ae,fun j ba=>?_⟩;unfold Oper.fL at ba;obtain⟨e,he,au,rfl⟩:=T'.1 ba;simp only[CD aa,Fz,Su,aam] at aG;have:=aG e (by simpa using he);rw[au] at this;simpa[lM] using this
theorem amT(af:wy ops.toList bU){listed:Array Bool}(eU:listed.size=ops.size):∀m,m<ops.size->lM listed m=false->Region.ready .any ops listed≠[]:=by
 intro m;induction m using Nat.strongRecOn with
 |ind m aK=>
  intro hm aZ;by_cases bB:∀j,(Oper.fL ops[m]).testBit j=true->lM listed j=true
  ·intro Pm;have:m∈Region.ready .any ops listed:=by
    unfold Region.ready;simp only[List.mem_filter,Sl,fU,qL];refine⟨hm,?_,?_⟩
    ·have c4:m<listed.size:=by omega
     unfold lM at aZ;simp[c4] at aZ ⊢;exact aZ
    ·simp only[CD hm,Fz,Su,aam];intro e he;cases au:Region.binds .any e with
     |false=>rfl
     |true=>
      have:=bB e.on (T'.2 ⟨e,by simpa using he,au,rfl⟩);simpa[lM] using this
   rw[Pm] at this;cases this
  ·simp only[Classical.not_forall] at bB;obtain⟨j,ba,ahb⟩:=bB;have c4:=af.down m ops[m] j (by simp[hm]) ba
   exact aK j c4 (by omega) (by cases h:lM listed j with
    |false=>rfl
    |true=>exact absurd h ahb)
theorem acN{listed:Array Bool}(h:listed.toList.count false=0):∀i,i<listed.size->lM listed i=true:=fun i ao=>by
 have bD:=List.count_eq_zero.1 h;unfold lM;cases au:listed.getD i false with
 |true=>rfl
 |false=>
  exfalso;refine bD ?_;have:listed[i]=false:=by simpa[ao] using au
  rw[<-this];simp
theorem count_set{listed:Array Bool}{i n:Nat}(ao:i<listed.size)(aC:lM listed i=false)(aH:listed.toList.count false=n+1):(listed.setIfInBounds i true).toList.count false=n:=by
 have au:listed[i]=false:=by unfold lM at aC;simpa[ao] using aC
 have:(listed.setIfInBounds i true).toList=listed.toList.set i true:=by simp
 rw[this,List.count_set (by simpa using ao)];simp[au,aH]
theorem ae3(bB:∀i,C.testBit i=true->D i=true)(t:Nat):free ops.toList C D t=true:=AX.2 fun⟨j,_,a,b,_,_⟩=>by
 rw[bB j a] at b;cases b
theorem adR(hC:qM P B w0 call)(py:yz P B w0 aR)(af:wy ops.toList bU)(Bf:∀(i:Nat) o,ops.toList[i]?=some o->cg.testBit i=false->zt o.op=false){dB:dH}:
 ∀(fuel uL:Nat) (listed:Array Bool) (bf:List jr) (C K G:Nat) (S:bi) (H:aB) (A:Nat->Nat) (μ:b1) (w:World) (tmps:Array Value) (ds:List Deferred) (cs:List Frame),
 Inv P B w0 call aR ops.toList bU cg jW H0 jt fr je C K G S H μ w tmps ds cs (lM listed) A->oi ops.toList bU cg C K G bf=true->dK P call aR ops.toList bf S H=some dB->
 (bf=[]\/∃i rest,bf=.bV i::rest)->listed.size=ops.size->listed.toList.count false=fuel->
 kZ P B w0 jW H0 jt fr je (lone (cj fr tmps ds (.inRegion ops (Region.linearise.go .any ops fuel uL listed [])::k)) cs w) k dB:=by
 intro fuel;induction fuel with
 |zero=>
  intro uL listed bf C K G S H A μ w tmps ds cs aJ aw he dO eU Kx;have bB:=acN Kx;have nE:∀i,i<ops.size->C.testBit i=true:=fun i ao=>aJ.sub i (bB i (by omega));rcases dO with rfl|⟨i,rest,rfl⟩
  ·have he:some (dH.ok S H)=some dB:=he;injection he with he;subst he
   refine⟨μ,w,tmps,ds,cs,aJ.h,aJ.gE,?_,aJ.Dh,aJ.b2,aJ.cJ,.one Rh⟩;refine aJ.f.conv rfl rfl rfl rfl rfl fun t v q=>zI.2 ⟨ae3 (fun i ao=>?_) t,q⟩;obtain⟨o,ar⟩:=aJ.FZ i ao;have:i<ops.toList.length:=(dX.1 ar).1;exact bB i (by simp at this;omega)
  ·exfalso;simp only[oi,fU] at aw;have aC:=aw.1.1.1.1.1;unfold fits at aC;rw[kR] at aC;cases ar:ops.toList[i]? with
   |none=>rw[ar] at aC;simp at aC
   |some o=>
    have:i<ops.toList.length:=(dX.1 ar).1;have:=nE i (by simpa using this);simp[this] at aC
 |succ fuel aK=>
  intro uL listed bf C K G S H A μ w tmps ds cs aJ aw he dO eU Kx;have cc:Region.ready .any ops listed≠[]:=by
   have:0<listed.toList.count false:=by omega
   rw[List.count_pos_iff] at this;obtain⟨m,hm,e⟩:=List.mem_iff_getElem.1 this;have Pc:m<listed.size:=by simpa using hm
   refine amT af eU m (by omega) ?_;unfold lM;simp at e;simp[Pc,e]
  simp only[Region.linearise.go]
  change kZ P B w0 jW H0 jt fr je (lone (cj fr tmps ds (.inRegion ops (match(Region.ready .any ops listed)[uL % (Region.ready .any ops listed).length]? with
   |some i=>Region.linearise.go .any ops fuel (uL / (Region.ready .any ops listed).length) (listed.setIfInBounds i true) [i]
   |none=>[].reverse)::k)) cs w) k dB
  cases ao:(Region.ready .any ops listed)[uL % (Region.ready .any ops listed).length]? with
  |none=>
   exfalso;have Wa:0<(Region.ready .any ops listed).length:=Fw.2 cc;have c4:=Nat.mod_lt uL Wa;rw[de c4] at ao;cases ao
  |some i=>
   simp only
   rw[linearise_go_acc,List.reverse_singleton,List.singleton_append];obtain⟨o,ar,c4,DI,sG⟩:=amS eU (cd ao);have rs:ops.toList[i]?=some o:=by simpa using ar
   have KI:i<listed.size:=by omega
   have Wj:(listed.setIfInBounds i true).size=ops.size:=by simpa using eU
   have OA:∀j,C.testBit j=true->K.testBit j=true\/G.testBit j=true:=fun j ba=>by
    have kx:sub C (Nat.lor K G)=true:=by
     rcases dO with rfl|⟨HW,rest,rfl⟩
     ·simp only[oi,fU] at aw;exact aw.2
     ·simp only[oi,fU] at aw;exact aw.1.1.2
    have:=Rm kx ba;rw[z6,yj] at this;exact this
   cases nE:C.testBit i with
   |true=>
    obtain⟨bI,bu,gO,e5,cT,di,GP⟩:=amV (k:=k) (rest:=Region.linearise.go .any ops fuel (uL / (Region.ready .any ops listed).length) (listed.setIfInBounds i true) []) hC py af aJ OA nE DI ar sG;rw[<-RY KI] at GP;exact(aK _ _ bf C K G S H A bI bu gO e5 cT GP aw he dO Wj (count_set KI DI Kx)).steps di
   |false=>
    rcases dO with rfl|⟨HW,rest,rfl⟩
    ·exfalso;simp only[oi,fU] at aw;have:=ajV aw.1 i (by simpa using c4);rw[nE] at this;cases this
    ·have ry:=aw;simp only[oi,fU] at aw;obtain⟨⟨⟨⟨⟨dS,iz⟩,iX⟩,lJ⟩,nj⟩,mB⟩:=aw;have pv:i=HW:=by
      have:=alg iX i o rs;rw[ls] at this;rcases this with q|q|q
      ·rw[nE] at q;cases q
      ·exact q
      ·exfalso;have ajd:sub (Oper.fL o) C=true:=by
        unfold sub;have:Nat.land (Oper.fL o) C=Oper.fL o:=by
         apply Nat.eq_of_testBit_eq
         intro j;rw[L3];cases ba:(Oper.fL o).testBit j with
         |false=>rfl
         |true=>rw[aJ.sub j (sG j ba)];rfl
        rw[this];simp
       rw[ajd] at q;cases q
     subst pv;rw[kR,rs] at nj;simp only[fU] at nj;have he:Option.rec (motive:=fun _=>Option dH) none (fun o=>kn (dK P call aR ops.toList rest) (one P call aR ops.toList S H o)) (nth ops.toList i)=some dB:=he;rw[kR,rs] at he;have he:kn (dK P call aR ops.toList rest) (one P call aR ops.toList S H o)=some dB:=he;cases oX:one P call aR ops.toList S H o with
     |none=>rw[oX] at he;cases he
     |some cI=>
      rw[oX] at he;cases cI with
      |jE c bq H1=>cases he
      |ok bq H1=>
       have he:dK P call aR ops.toList rest bq H1=some dB:=he;obtain⟨bI,bu,gO,e5,cT,di,GP⟩:=amU (k:=k) (rest:=Region.linearise.go .any ops fuel (uL / (Region.ready .any ops listed).length) (listed.setIfInBounds i true) []) hC py af aJ nE ar sG oX rfl (fun j ba=>Rm nj.1 ba) nj.2;rw[<-RY KI] at GP;obtain⟨rN,wi,ot,aS,H',pU,bd,a6,b9,fN⟩:=TE af Bf rest _ _ bq H1 A GP mB he;exact(aK _ _ rN wi _ ot aS H' pU bI bu gO e5 cT bd a6 b9 fN Wj (count_set KI DI Kx)).steps di
theorem aej(oV:P.follows .mixedOrders=true)(hC:qM P B w0 call)(py:yz P B w0 aR)(h:ca P B w0 μ H w)(aC:iO μ S fr tmps ds cs){dB:dH}{id:Nat}(he:w5 P call aR ops.toList S H=some dB):
 kZ P B w0 μ H S fr cs (lone (cj fr tmps ds (.code (.region id ops true)::k)) cs w) k dB:=by
 unfold w5 at he;cases aZ:Dn ops.toList with
 |false=>rw[aZ] at he;cases he
 |true=>
  rw[aZ,cb] at he;unfold Dn at aZ;simp only[fU] at aZ;obtain⟨vD,xm⟩:=aZ;have af:=anG vD;have Bf:∀(i:Nat) o,ops.toList[i]?=some o->(yD ops.toList 0).testBit i=false->zt o.op=false:=fun i o ar au=>by
   cases a':zt o.op with
   |false=>rfl
   |true=>
    have:=aa6 (k:=0) ar a';rw[ls,au] at this;cases this
  refine kZ.steps (.one anM) ?_;simp only[Region.schedule,oV,Bool.true_or,Ek];have bN:∀i,Nat.testBit 0 i=false:=fun i=>Nat.zero_testBit i;have DH:∀i,lM (Array.replicate ops.size false) i=false:=fun i=>by
   unfold lM;by_cases ao:i<ops.size
   ·simp[ao]
   ·simp[ao]
  have aJ:Inv P B w0 call aR ops.toList (Dc ops.toList ops.toList 0) (yD ops.toList 0) μ H S fr cs 0 0 0 S H μ {w with drawn:=w.drawn+1} tmps ds cs (lM (Array.replicate ops.size false)) (fun _=>0):=by
   refine⟨h.drawn _,?_,Step.refl _ _,kV.refl _ _ aC.Bg,rfl,rfl,fun i ao=>?_,fun i ao=>?_,fun i o j ao=>?_,fun i o j ao=>?_,fun i ao=>?_,fun i o ao=>?_,fun i j jk er ao=>?_⟩
   ·exact aC.conv rfl rfl rfl rfl rfl fun t v q=>(zI.1 q).2
   ·rw[DH] at ao;cases ao
   ·rw[bN] at ao;cases ao
   ·rw[DH] at ao;cases ao
   ·rw[bN] at ao;cases ao
   ·rw[bN] at ao;cases ao
   ·rw[bN] at ao;cases ao
   ·rw[bN] at ao;cases ao
  obtain⟨rN,wi,ot,aS,H',pU,bd,a6,b9,fN⟩:=TE af Bf (IB ops.toList) _ _ S H _ aJ xm he;unfold Region.linearise;exact adR hC py af Bf ops.size _ _ rN wi _ ot aS H' pU μ _ tmps ds cs bd a6 b9 fN (by simp) (by simp)
end
end
end Go.Cre
namespace Go.Cre
noncomputable section
open Go.RowKit
open Classical
section
variable {P:Program}{B:Nat->Prop}{w0 w:World}{μ jW:b1}{H H0 H' H1:aB}{S jt aS bq:bi}{fr:Frame}{tmps:Array Value}{ds:List Deferred}{cs je:List Frame}{call:eH}{aR:gR}
variable {ops:Array Oper}{l:List Oper}{bU cg C K G:Nat}{D:Nat->Bool}{A:Nat->Nat}{i:Nat}{o:Oper}{k:List Item}{rest:List Nat}
end
end
end Go.Cre
namespace Go.Cre
noncomputable section
open Go.RowKit
open Classical
section
variable {P:Program}{call:eH}{aR:gR}
end
end
end Go.Cre
namespace Go.Cre
noncomputable section
open Go.RowKit
open Classical
def aas(P:Program)(B:Nat->Prop)(w0:World)(call:eH):Prop:=∀(hY:Nat->Prop) (iE:World),(∀k,B k->hY k)->Kept B w0 iE->qM P hY iE call
def aaP(P:Program)(B:Nat->Prop)(w0:World)(aR:gR):Prop:=∀(hY:Nat->Prop) (iE:World),(∀k,B k->hY k)->Kept B w0 iE->yz P hY iE aR
section
variable {P:Program}{B hY:Nat->Prop}{w0 w bu:World}{μ bI jW:b1}{H H0 H' H1:aB}{S jt aS bq:bi}{fr:Frame}{tmps:Array Value}{ds:List Deferred}{cs je:List Frame}{call:eH}{aR:gR}
variable {ops:Array Oper}{l:List Oper}{bU cg C K G:Nat}{D:Nat->Bool}{A:Nat->Nat}{i:Nat}{o:Oper}{k:List Item}{rest:List Nat}{ws a m:Nat}{es:List (Nat×Value×Value)}
end
end
end Go.Cre
namespace Go.Cre
noncomputable section
open Go.RowKit
open Classical
section
variable {P:Program}{ops:Array Oper}{L:Lit}{l:List Oper}{bU cg:Nat}{key el:TypeId}{aj3:TypeDesc}{es:List (Nat×Value×Value)}{a:Nat}{aaN:bi}{i:Nat}{o:Oper}
end
section
variable {P:Program}{B:Nat->Prop}{w0 auz:World}{jW:b1}{H0 cN apW:aB}{jt aaN gv:bi}{fr:Frame}{je:List Frame}{call:eH}{aR:gR}
variable {ops:Array Oper}{L:Lit}{l:List Oper}{bU cg:Nat}{key el:TypeId}{aj3:TypeDesc}{es:List (Nat×Value×Value)}{a a2:Nat}{k:List Item}
end
end
end Go.Cre
namespace Go.Cre
noncomputable section
open Go.RowKit
structure Reached (P:Program) (B:Nat->Prop) (w0:World) (μ:b1) (H:aB) (S:bi) (fr:Frame) (cs:List Frame) (aS:bi) (H':aB) (bI:b1) (bu:World) (gO:Array Value) (e5:List Deferred) (cT:List Frame):Prop where
 h:ca P B w0 bI H' bu
 gE:Step μ bI H H'
 f:iO bI aS fr gO e5 cT
 c:kV S.b2 cs cT
 b2:aS.b2=S.b2
 cJ:aS.cJ=S.cJ
def mM(P:Program)(B:Nat->Prop)(w0:World)(μ:b1)(H:aB)(S:bi)(fr:Frame)(cs:List Frame)(m:Machine)(k:List Item)(aS:bi)(H':aB):Exit->Prop
 |.normal=>∃bI bu gO e5 cT,Reached P B w0 μ H S fr cs aS H' bI bu gO e5 cT/\Steps P m (lone (cj fr gO e5 k) cT bu)
 |.exit id=>∃bI bu gO e5 cT ft,Reached P B w0 μ H S fr cs aS H' bI bu gO e5 cT/\exitTo id ft=exitTo id k/\Steps P m (lone (cj fr gO e5 (.code (.exit id)::ft)) cT bu)
 |.ret=>∃bI bu gO e5 cT ft,Reached P B w0 μ H S fr cs aS H' bI bu gO e5 cT/\Steps P m (lone (cj fr gO e5 (.code .ret::ft)) cT bu)
 |.panic chain=>∃bI bu gO e5 cT Ga ft,Reached P B w0 μ H S fr cs aS H' bI bu gO e5 cT/\iF bI chain Ga/\Steps P m (lone {cj fr gO e5 ft with mode:=.panicking Ga} cT bu)
 |_=>False
def yx(c:Code)(it:Item):Prop:=it=.code c\/∃ch,c=.loop ch/\it=.inLoop ch
def r0(P:Program)(B:Nat->Prop)(w0:World)(code:Code->bi->aB->Option (Exit×bi×aB)):Prop:=
 ∀c S H e aS H',code c S H=some (e,aS,H')->∀μ w fr tmps ds cs k it,ca P B w0 μ H w->iO μ S fr tmps ds cs->yx c it->mM P B w0 μ H S fr cs (lone (cj fr tmps ds (it::k)) cs w) k aS H' e
section
variable {P:Program}{B:Nat->Prop}{w0 w:World}{μ fZ:b1}{H H1 H':aB}{S bq aS:bi}{fr:Frame}{tmps:Array Value}{ds:List Deferred}{cs gi:List Frame}{m m':Machine}{k bp:List Item}{e:Exit}
theorem Reached.trans{rZ:b1}{gv:bi}{cN:aB}{e3 iD:World}{t1 t2:Array Value}{d1 d2:List Deferred}{JZ:List Frame}(h:Reached P B w0 μ H S fr cs bq H1 fZ e3 t1 d1 gi)(q:Reached P B w0 fZ H1 bq fr gi gv cN rZ iD t2 d2 JZ):
 Reached P B w0 μ H S fr cs gv cN rZ iD t2 d2 JZ:=
 ⟨q.h,h.gE.trans q.gE,q.f,h.c.trans (h.b2▸q.c),q.b2.trans h.b2,q.cJ.trans h.cJ⟩
theorem Reached.refl(h:ca P B w0 μ H w)(aC:iO μ S fr tmps ds cs):Reached P B w0 μ H S fr cs S H μ w tmps ds cs:=
 ⟨h,Step.refl _ _,aC,kV.refl _ _ aC.Bg,rfl,rfl⟩
theorem mM.steps(af:Steps P m m')(h:mM P B w0 μ H S fr cs m' k aS H' e):mM P B w0 μ H S fr cs m k aS H' e:=by
 cases e with
 |normal=>obtain⟨bo,a2,a3,a4,a5,dc,cX⟩:=h;exact⟨bo,a2,a3,a4,a5,dc,af.trans cX⟩
 |exit id=>obtain⟨bo,a2,a3,a4,a5,dc,cX,hs,a9⟩:=h;exact⟨bo,a2,a3,a4,a5,dc,cX,hs,af.trans a9⟩
 |ret=>obtain⟨bo,a2,a3,a4,a5,dc,cX,hs⟩:=h;exact⟨bo,a2,a3,a4,a5,dc,cX,af.trans hs⟩
 |panic bU=>obtain⟨bo,a2,a3,a4,a5,dc,cX,hs,a9,q2⟩:=h;exact⟨bo,a2,a3,a4,a5,dc,cX,hs,a9,af.trans q2⟩
 |goto l=>exact h
 |outgrown=>exact h
theorem mM.after{e3:World}{t1:Array Value}{d1:List Deferred}(ay:Reached P B w0 μ H S fr cs bq H1 fZ e3 t1 d1 gi)(h:mM P B w0 fZ H1 bq fr gi m k aS H' e):mM P B w0 μ H S fr cs m k aS H' e:=by
 cases e with
 |normal=>obtain⟨bo,a2,a3,a4,a5,dc,cX⟩:=h;exact⟨bo,a2,a3,a4,a5,ay.trans dc,cX⟩
 |exit id=>obtain⟨bo,a2,a3,a4,a5,dc,cX,hs,a9⟩:=h;exact⟨bo,a2,a3,a4,a5,dc,ay.trans cX,hs,a9⟩
 |ret=>obtain⟨bo,a2,a3,a4,a5,dc,cX,hs⟩:=h;exact⟨bo,a2,a3,a4,a5,dc,ay.trans cX,hs⟩
 |panic bU=>obtain⟨bo,a2,a3,a4,a5,dc,cX,hs,a9,q2⟩:=h;exact⟨bo,a2,a3,a4,a5,dc,cX,ay.trans hs,a9,q2⟩
 |goto l=>exact h
 |outgrown=>exact h
theorem mM.bind(h:mM P B w0 μ H S fr cs m bp bq H1 .normal)
 (aU:∀fZ e3 t1 d1 gi,Reached P B w0 μ H S fr cs bq H1 fZ e3 t1 d1 gi->mM P B w0 fZ H1 bq fr gi (lone (cj fr t1 d1 bp) gi e3) k aS H' e):mM P B w0 μ H S fr cs m k aS H' e:=by
 obtain⟨fZ,e3,t1,d1,gi,ay,di⟩:=h;exact((aU fZ e3 t1 d1 gi ay).after ay).steps di
theorem mM.pass{x:Item}(U:∀id,e=.exit id->exitTo id (x::k)=exitTo id k)(aP:e≠.normal)(h:mM P B w0 μ H S fr cs m (x::k) aS H' e):mM P B w0 μ H S fr cs m k aS H' e:=by
 cases e with
 |normal=>exact absurd rfl aP
 |exit id=>obtain⟨bo,a2,a3,a4,a5,dc,cX,hs,a9⟩:=h;exact⟨bo,a2,a3,a4,a5,dc,cX,hs.trans (U id rfl),a9⟩
 |ret=>exact h
 |panic bU=>exact h
 |goto l=>exact h
 |outgrown=>exact h
theorem QX{dB:dH}(he:rP (some dB)=some (e,aS,H'))(h:kZ P B w0 μ H S fr cs m k dB):mM P B w0 μ H S fr cs m k aS H' e:=by
 cases dB with
 |ok bq H1=>
  simp only[rP,cp,dC] at he;obtain⟨rfl,rfl,rfl⟩:=he;obtain⟨a,b,c,d,x,g1,g2,g3,g4,g5,g6,g7⟩:=h;exact⟨a,b,c,d,x,⟨g1,g2,g3,g4,g5,g6⟩,g7⟩
 |jE bU bq H1=>
  simp only[rP,cp,dC] at he;obtain⟨rfl,rfl,rfl⟩:=he;obtain⟨a,b,c,d,x,y,z,g1,g2,g3,g4,g5,g6,g7,g8⟩:=h;exact⟨a,b,c,d,x,y,z,⟨g1,g2,g3,g4,g5,g6⟩,g7,g8⟩
theorem YS{E:gQ}{b:Code}{r:Option (Exit×bi×aB)}{x:Item}(aH:r0 P B w0 E.code)(di:yx b x)(U:∀id,exitTo id (x::k)=exitTo id k)
 (ay:∀aN bq H1,r=some (aN,bq,H1)->mM P B w0 μ H S fr cs m (x::k) bq H1 aN)(he:F9 E b r=some (e,aS,H')):mM P B w0 μ H S fr cs m k aS H' e:=by
 cases r with
 |none=>cases he
 |some p=>
  obtain⟨aN,bq,H1⟩:=p;have aa:=ay aN bq H1 rfl;by_cases aP:aN=.normal
  ·subst aP;have he:E.code b bq H1=some (e,aS,H'):=he;exact aa.bind fun fZ e3 t1 d1 gi lD=>aH b bq H1 e aS H' he fZ e3 fr t1 d1 gi k x lD.h lD.f di
  ·have he:some (aN,bq,H1)=some (e,aS,H'):=by
    cases aN<;>first|exact absurd rfl aP|exact he
   simp only[cp,dC] at he;obtain⟨rfl,rfl,rfl⟩:=he;exact aa.pass (fun id _=>U id) aP
theorem Uj{E:gQ}(oV:P.follows .mixedOrders=true)(aH:r0 P B w0 E.code)(ag4:aas P B w0 E.call)(ajy:aaP P B w0 E.aR):r0 P B w0 (J4 P E):=by
 have hC:=ag4 B w0 (fun _ h=>h) (Kept.refl _ _);have py:=ajy B w0 (fun _ h=>h) (Kept.refl _ _);intro c S H e aS H' he μ w fr tmps ds cs k it h aC di;have sF:(∀ch,c≠.loop ch)->it=.code c:=fun cr=>by
  rcases di with q|⟨ch,q,_⟩
  ·exact q
  ·exact absurd q (cr ch)
 unfold J4 at he;cases c with
 |skip=>
  obtain rfl:=sF (fun _ q=>by cases q);have he:some (Exit.normal,S,H)=some (e,aS,H'):=he;simp only[cp,dC] at he;obtain⟨rfl,rfl,rfl⟩:=he;exact⟨μ,w,tmps,ds,cs,.refl h aC,.one anX⟩
 |label l=>
  obtain rfl:=sF (fun _ q=>by cases q);have he:some (Exit.normal,S,H)=some (e,aS,H'):=he;simp only[cp,dC] at he;obtain⟨rfl,rfl,rfl⟩:=he;exact⟨μ,w,tmps,ds,cs,.refl h aC,.one anR⟩
 |exit id=>
  obtain rfl:=sF (fun _ q=>by cases q);have he:some (Exit.exit id,S,H)=some (e,aS,H'):=he;simp only[cp,dC] at he;obtain⟨rfl,rfl,rfl⟩:=he;exact⟨μ,w,tmps,ds,cs,k,.refl h aC,rfl,.refl P _⟩
 |ret=>
  obtain rfl:=sF (fun _ q=>by cases q);have he:some (Exit.ret,S,H)=some (e,aS,H'):=he;simp only[cp,dC] at he;obtain⟨rfl,rfl,rfl⟩:=he;exact⟨μ,w,tmps,ds,cs,k,.refl h aC,.refl P _⟩
 |goto l=>cases he
 |refuse auw=>cases he
 |region id ops d=>
  obtain rfl:=sF (fun _ q=>by cases q);cases d with
  |false=>
   have he:rP (Dy P E.call E.aR ops.toList ops.toList S H)=some (e,aS,H'):=he;cases ay:Dy P E.call E.aR ops.toList ops.toList S H with
   |none=>rw[ay] at he;cases he
   |some dB=>
    rw[ay] at he;have:=aet (k:=k) (fr:=fr) hC py ops.toList 0 μ w S H tmps ds cs dB (by simp) h aC ay;have aN:List.range' 0 ops.toList.length=List.range ops.size:=by rw[aaJ];simp
    rw[aN] at this;exact(QX he this).steps (.one Ze)
  |true=>
   have he:rP (vo P E.call E.aR ops.toList S H)=some (e,aS,H'):=he;cases ay:vo P E.call E.aR ops.toList S H with
   |none=>rw[ay] at he;cases he
   |some dB=>
    rw[ay] at he;refine QX he ?_;unfold vo at ay;cases av:H4 ops.toList with
    |none=>rw[av] at ay;exact aej oV hC py h aC ay
    |some L=>rw[av] at ay;cases ay
 |seq a b=>
  obtain rfl:=sF (fun _ q=>by cases q);have he:F9 E b (E.code a S H)=some (e,aS,H'):=he;exact YS aH (.inl rfl) (fun id=>rfl) (fun aN bq H1 q=>(aH a S H aN bq H1 q μ w fr tmps ds cs (.code b::k) (.code a) h aC (.inl rfl)).steps (.one Ri)) he
 |cond x a b=>
  obtain rfl:=sF (fun _ q=>by cases q);have he:JS E S H a b (bk S.T H x)=some (e,aS,H'):=he;cases U:bk S.T H x with
  |none=>rw[U] at he;cases he
  |some v=>
   rw[U] at he;have az:=vX h aC.t U;cases v with
   |bool t=>
    have au:=az.FY;cases t with
    |true=>
     have he:E.code a S H=some (e,aS,H'):=he;exact(aH a S H e aS H' he μ w fr tmps ds cs k (.code a) h aC (.inl rfl)).steps (.one (Za au))
    |false=>
     have he:E.code b S H=some (e,aS,H'):=he;exact(aH b S H e aS H' he μ w fr tmps ds cs k (.code b) h aC (.inl rfl)).steps (.one (Za au))
   |_=>cases he
 |block id c=>
  obtain rfl:=sF (fun _ q=>by cases q);have he:M3 id (E.code c S H)=some (e,aS,H'):=he;cases ay:E.code c S H with
  |none=>rw[ay] at he;cases he
  |some p=>
   obtain⟨aN,bq,H1⟩:=p;rw[ay] at he;have aa:=(aH c S H aN bq H1 ay μ w fr tmps ds cs (.inBlock id::k) (.code c) h aC (.inl rfl)).steps (.one (anK (P:=P)));cases aN with
   |exit l4=>
    have he:(bif Nat.beq l4 id then some (Exit.normal,bq,H1) else some (Exit.exit l4,bq,H1))=some (e,aS,H'):=he;obtain⟨bo,a2,a3,a4,a5,dc,cX,hs,a9⟩:=aa;cases au:Nat.beq l4 id with
    |true=>
     rw[au,cb] at he;simp only[cp,dC] at he;obtain⟨rfl,rfl,rfl⟩:=he;obtain rfl:=eN au;have aN:exitTo l4 (.inBlock l4::k)=some k:=by simp[exitTo]
     exact⟨bo,a2,a3,a4,a5,cX,a9.trans (.one (anO (hs.trans aN)))⟩
    |false=>
     rw[au,dZ] at he;simp only[cp,dC] at he;obtain⟨rfl,rfl,rfl⟩:=he;have cc:¬id=l4:=fun q=>by subst q;simp at au
     have aN:exitTo l4 (.inBlock id::k)=exitTo l4 k:=by simp[exitTo,cc]
     exact⟨bo,a2,a3,a4,a5,dc,cX,hs.trans aN,a9⟩
   |normal=>
    have he:some (Exit.normal,bq,H1)=some (e,aS,H'):=he;simp only[cp,dC] at he;obtain⟨rfl,rfl,rfl⟩:=he;obtain⟨bo,a2,a3,a4,a5,dc,cX⟩:=aa;exact⟨bo,a2,a3,a4,a5,dc,cX.trans (.one anP)⟩
   |goto l=>exact aa.elim
   |ret=>
    have he:some (Exit.ret,bq,H1)=some (e,aS,H'):=he;simp only[cp,dC] at he;obtain⟨rfl,rfl,rfl⟩:=he;exact aa.pass (fun id q=>by cases q) (fun q=>by cases q)
   |panic bU=>
    have he:some (Exit.panic bU,bq,H1)=some (e,aS,H'):=he;simp only[cp,dC] at he;obtain⟨rfl,rfl,rfl⟩:=he;exact aa.pass (fun id q=>by cases q) (fun q=>by cases q)
   |outgrown=>exact aa.elim
 |loop c=>
  have he:F9 E (.loop c) (E.code c S H)=some (e,aS,H'):=he;have bE:step P (lone (cj fr tmps ds (it::k)) cs w)=.next (lone (cj fr tmps ds (.code c::.inLoop c::k)) cs w):=by
   rcases di with rfl|⟨ch,q,rfl⟩
   ·exact Zd
   ·injection q with q;subst q;exact Zc
  exact YS aH (.inr ⟨c,rfl,rfl⟩) (fun id=>rfl) (fun aN bq H1 q=>(aH c S H aN bq H1 q μ w fr tmps ds cs (.inLoop c::k) (.code c) h aC (.inl rfl)).steps (.one bE)) he
 |scope c=>
  obtain rfl:=sF (fun _ q=>by cases q);have he:TA (E.code c S H)=some (e,aS,H'):=he;cases ay:E.code c S H with
  |none=>rw[ay] at he;cases he
  |some p=>
   obtain⟨aN,bq,H1⟩:=p;rw[ay] at he;have aa:=(aH c S H aN bq H1 ay μ w fr tmps ds cs (.inScope c::k) (.code c) h aC (.inl rfl)).steps (.one (anW (P:=P)));have he:some (aN,bq,H1)=some (e,aS,H'):=by cases aN<;>first|exact he|exact aa.elim
   simp only[cp,dC] at he;obtain⟨rfl,rfl,rfl⟩:=he;by_cases aP:aN=.normal
   ·subst aP;obtain⟨bo,a2,a3,a4,a5,dc,cX⟩:=aa;exact⟨bo,a2,a3,a4,a5,dc,cX.trans (.one anQ)⟩
   ·exact aa.pass (fun id _=>rfl) aP
 |rangeFunc f params assign body=>
  obtain rfl:=sF (fun _ q=>by cases q);have he:(none:Option (Exit×bi×aB))=some (e,aS,H'):=he;cases he
end
end
end Go.Cre
namespace Go.Cre
noncomputable section
open Go.RowKit
section
variable {P:Program}{B:Nat->Prop}{w0 w:World}{μ fZ bI:b1}{H H1 H':aB}{S bq aS:bi}{fr:Frame}{tmps:Array Value}{ds:List Deferred}{cs gi:List Frame}
def IG (tmps:Array Value):ResultVar->Sem Value
 |.tmp t=>pure (tmps.getD t undef)
 |.cell a t=>do loadVar t (<-asAddr (tmps.getD a undef))
theorem aex(h:ca P B w0 μ H w){T:bg Value}{n:Nat}(aD:lu μ T n tmps):∀{l:List ResultVar} {vs:List Value},p8 P T H l=some vs->
 ∃kD,(l.mapM (IG tmps)).run P w=.ok kD w/\b4 μ vs kD:=by
 intro l;induction l with
 |nil=>intro vs he;simp[p8] at he;subst he;exact⟨[],by simp,b4.nil _⟩
 |cons x l aK=>
  intro vs he;cases x with
  |tmp t=>
   simp only[p8] at he;cases dy:T.get t with
   |none=>rw[dy] at he;cases he
   |some u=>
    rw[dy] at he;cases av:p8 P T H l with
    |none=>rw[av] at he;cases he
    |some r=>
     rw[av] at he;injection he with he;subst he
     obtain⟨kD,a,b⟩:=aK av;refine⟨tmps.getD t undef::kD,?_,b4.cons (aD.2 t u dy) b⟩;rw[Sj];have e:IG tmps (.tmp t)=pure (tmps.getD t undef):=rfl;rw[e];simp only[Sem.run_bind,Sem.run_pure,Result.andThen,a]
  |cell c t=>
   simp only[p8] at he;cases dy:T.get c with
   |none=>rw[dy] at he;cases he
   |some u=>
    rw[dy] at he;simp only at he;cases az:AS P H t u with
    |none=>rw[az] at he;cases he
    |some v=>
     rw[az] at he;cases av:p8 P T H l with
     |none=>rw[av] at he;cases he
     |some r=>
      rw[av] at he;injection he with he;subst he
      obtain⟨kD,a,b⟩:=aK av;have hu:=aD.2 c u dy;unfold AS at az;cases u with
      |pointer p=>
       cases p with
       |none=>cases az
       |some p=>
        obtain⟨id,off,L,rfl,bT,c7⟩:=hu.o6;simp only at az;obtain⟨v',aa,ae⟩:=Ul h bT az;refine⟨v'::kD,?_,b4.cons ae b⟩;rw[Sj];have e:(IG tmps (.cell c t)).run P w=.ok v' w:=by
         show(do loadVar t (<-asAddr (tmps.getD c undef)):Sem Value).run P w=_;rw[c7];simp[asAddr,aa]
        simp only[Sem.run_bind,e,Result.andThen,a,Sem.run_pure]
      |_=>cases az
theorem am0(h:ca P B w0 μ H w){T:bg Value}{n:Nat}(aD:lu μ T n tmps){fn:Func}{vs:List Value}(he:p8 P T H fn.results.toList=some vs):
 ∃v',(results fn tmps).run P w=.ok v' w/\bF μ (pE vs) v':=by
 obtain⟨kD,a,b⟩:=aex h aD he;have hm:(fn.results.mapM (IG tmps)).run P w=.ok kD.toArray w:=by
  rw[aaq];simp[a]
 have ay:results fn tmps=(do let vs <-fn.results.mapM (IG tmps);pure (if h:vs.size=1 then vs[0] else .tuple vs)):=by
  unfold results;congr 2
 rw[ay];simp only[Sem.run_bind,hm,Result.andThen,Sem.run_pure];refine⟨_,rfl,?_⟩;by_cases aa:kD.length=1
 ·have ae:vs.length=1:=b.1.trans aa;obtain⟨v,rfl⟩:=aaF.1 ae;obtain⟨v',rfl⟩:=aaF.1 aa;simpa[pE] using b.2 0 v v' rfl rfl
 ·have ae:vs.length≠1:=fun q=>aa (b.1.symm.trans q);have e:pE vs=.tuple vs.toArray:=by
   unfold pE;split
   ·simp at ae
   ·rfl
  rw[e];have:¬kD.toArray.size=1:=by simpa using aa
  rw[dif_neg this];exact bF.Rq b
theorem iF.lf{ch:List PanicEntry}(h:iF μ [] ch):ch=[]:=yq h.1.symm
theorem iF.jC{x:PanicEntry}{c ch:List PanicEntry}(h:iF μ (x::c) ch):∃dT d,ch=dT::d/\dT.recovered=x.recovered/\dT.goexit=x.goexit/\bF μ x.v dT.v/\iF μ c d:=by
 cases ch with
 |nil=>have:=h.1;simp at this
 |cons dT d=>
  obtain⟨a,b,e⟩:=h.2 0 x dT rfl rfl;exact⟨dT,d,rfl,a,b,e,by have:=h.1;simpa using this,fun i p q aw c7=>h.2 (i+1) p q (by simpa using aw) (by simpa using c7)⟩
theorem iF.nil(μ:b1):iF μ [] []:=⟨rfl,fun i e bG h=>by simp at h⟩
theorem iF.cons{x dT:PanicEntry}{c ch:List PanicEntry}(aa:dT.recovered=x.recovered)(ae:dT.goexit=x.goexit)(aG:bF μ x.v dT.v)(h:iF μ c ch):iF μ (x::c) (dT::ch):=
 ⟨by simp[h.1],fun i p q aw c7=>by
  cases i with
  |zero=>simp at aw c7;subst aw;subst c7;exact⟨aa,ae,aG⟩
  |succ i=>exact h.2 i p q (by simpa using aw) (by simpa using c7)⟩
theorem iF.append{a bY b b':List PanicEntry}(h:iF μ a bY)(k:iF μ b b'):iF μ (a++b) (bY++b'):=by
 induction a generalizing bY with
 |nil=>obtain rfl:=h.lf;exact k
 |cons x a aK=>obtain⟨dT,d,rfl,aa,ae,aG,br⟩:=h.jC;exact .cons aa ae aG (aK br)
theorem iF.dropWhile{a bY:List PanicEntry}(h:iF μ a bY):iF μ (a.dropWhile (!·.goexit)) (bY.dropWhile (!·.goexit)):=by
 induction a generalizing bY with
 |nil=>obtain rfl:=h.lf;exact .nil _
 |cons x a aK=>
  obtain⟨dT,d,rfl,aa,ae,aG,br⟩:=h.jC;simp only[List.dropWhile,ae];cases x.goexit with
  |true=>exact h
  |false=>exact aK br
theorem anx{u ie:FrameMode}(h:pd μ u ie):pd μ (settle u) (settle ie):=by
 cases u with
 |run=>cases ie<;>first|exact h.elim|trivial
 |returning=>cases ie<;>first|exact h.elim|trivial
 |panicking c=>
  cases ie with
  |run=>exact h.elim
  |returning=>exact h.elim
  |panicking ch=>
   have h:iF μ c ch:=h;cases c with
   |nil=>obtain rfl:=h.lf;exact h
   |cons x c=>
    obtain⟨dT,d,rfl,aa,ae,aG,br⟩:=h.jC;obtain⟨Cz,apA,apx⟩:=x;obtain⟨RH,RG,aae⟩:=dT;simp only at aa ae aG;subst aa;subst ae;cases RG with
    |false=>exact h
    |true=>
     have aZ:=br.dropWhile;simp only[settle];cases c7:c.dropWhile (!·.goexit) with
     |nil=>rw[c7] at aZ;rw[aZ.lf];trivial
     |cons y r=>
      rw[c7] at aZ;obtain⟨iM,dw,e,_⟩:=aZ.jC;rw[e] at aZ ⊢;exact aZ
theorem amO{u ie:FrameMode}{c ch:List PanicEntry}(h:pd μ u ie)(aH:iF μ c ch):pd μ (raised u c) (raised ie ch):=by
 cases u with
 |run=>cases ie<;>first|exact h.elim|exact aH
 |returning=>cases ie<;>first|exact h.elim|exact aH
 |panicking d=>
  cases ie with
  |run=>exact h.elim
  |returning=>exact h.elim
  |panicking k2=>exact aH.append h
theorem anw{u:FrameMode}(h:u≠.run):settle u≠.run:=by
 unfold settle;split
 ·split<;>(intro q;cases q)
 ·exact h
theorem amN{u:FrameMode}{c:List PanicEntry}:raised u c≠.run:=by
 unfold raised;split<;>(intro q;cases q)
theorem aeo{E:gQ}{fn:Func}{T:bg Value}{h4:List Deferred}{r:Ending×aB}(h:iI P E fn T h4 .run H=some r):False:=by
 cases h4 with
 |nil=>simp[iI] at h
 |cons d l=>simp[iI,K4] at h
def uR(P:Program)(B:Nat->Prop)(w0:World)(body:FuncId->List Value->Bool->FrameMode->aB->Option (Ending×FrameMode×aB)):Prop:=
 ∀f args bJ H e gd H',body f args true bJ H=some (e,gd,H')->∀μ w cz,ca P B w0 μ H w->b4 μ args cz->
  (callFunc f cz.toArray).run P w=.ok (.enter f cz.toArray) w/\
  ∀(c:Frame) (cs:List Frame),pd μ bJ c.mode->∃bI bu bG ie fr,ca P B w0 bI H' bu/\Step μ bI H H'/\Fp bI e bG/\pd bI gd ie/\
   Steps P (lone (Frame.enter P f cz.toArray .deferred) (c::cs) w) (lone fr ({c with mode:=ie}::cs) bu)/\fr.kind=.deferred/\fr.going P bu bG
theorem aep{E:gQ}(Bm:uR P B w0 E.body){fn:Func}{T:bg Value}{n:Nat}:∀(h4:List Deferred) (u:FrameMode) (H:aB) (e:Ending) (H':aB),iI P E fn T h4 u H=some (e,H')->
 ∀(μ:b1) (w:World) (fr:Frame) (cs:List Frame),ca P B w0 μ H w->lu μ T n fr.tmps->yk μ h4 fr.defers->pd μ u fr.mode->u≠.run->P.funcs[fr.fn]?=some fn->
 ∃bI bu bG nD,ca P B w0 bI H' bu/\Step μ bI H H'/\Fp bI e bG/\Steps P (lone fr cs w) (lone nD cs bu)/\nD.kind=fr.kind/\nD.fn=fr.fn/\nD.going P bu bG:=by
 intro h4;induction h4 with
 |nil=>
  intro u H e H' he μ w fr cs h aD aZ hm hu aC;cases tW:fr.defers with
  |cons d l=>rw[tW] at aZ;cases aZ
  |nil=>
   cases u with
   |run=>exact absurd rfl hu
   |returning=>
    have Hm:fr.mode=.returning:=by cases c7:fr.mode<;>rw[c7] at hm<;>first|rfl|exact hm.elim
    simp only[iI] at he;cases ay:p8 P T H fn.results.toList with
    |none=>rw[ay] at he;cases he
    |some vs=>
     rw[ay] at he;simp only[cp,dC] at he;obtain⟨rfl,rfl⟩:=he;obtain⟨v',a,b⟩:=am0 h aD ay;exact⟨μ,w,.returned v',fr,h,Step.refl _ _,b,.refl P _,rfl,rfl,Hm,tW,fn,aC,a⟩
   |panicking c=>
    cases c7:fr.mode with
    |run=>rw[c7] at hm;exact hm.elim
    |returning=>rw[c7] at hm;exact hm.elim
    |panicking ch=>
     rw[c7] at hm;simp only[iI,cp,dC] at he;obtain⟨rfl,rfl⟩:=he;exact⟨μ,w,.panicked ch,fr,h,Step.refl _ _,hm,.refl P _,rfl,rfl,c7,tW,fn,aC⟩
 |cons d h4 aK=>
  intro u H e H' he μ w fr cs h aD aZ hm hu aC;have iv:fr.mode≠.run:=fun q=>by rw[q] at hm;cases u<;>first|exact hu rfl|exact hm.elim
  cases tW:fr.defers with
  |nil=>rw[tW] at aZ;cases aZ
  |cons k2 e5=>
   rw[tW] at aZ;cases aZ with
   |cons _ _ _ _ aha xn=>
   simp only[iI] at he;have Hp:K4 u=false:=by cases u<;>first|exact absurd rfl hu|rfl
   rw[Hp,dZ] at he;rcases aha with⟨fv,cap,eg,t1,t2,t3,t4,t5⟩|⟨r,L,t1,t2,t3⟩
   ·rw[t1] at he;simp only at he;cases qg:mU P H fv d.args.toList cap.toList with
    |none=>rw[qg] at he;cases he
    |some p=>
     obtain⟨f,args⟩:=p;rw[qg] at he;simp only at he;obtain⟨jv,bo,a2⟩:=Uk (w:=w) t5 t4 qg;cases au:E.body f args true u H with
     |none=>rw[au] at he;cases he
     |some q=>
      obtain⟨aN,gd,H1⟩:=q;rw[au] at he;obtain⟨bm,bl⟩:=Bm f args u H aN gd H1 au μ w jv h a2;have hinv:(invoke k2.target k2.args).run P w=.ok (.enter f jv.toArray) w:=by
       rw[t2];have aN:eg.toList.toArray=eg:=by simp
       have bn:k2.args.toList.toArray=k2.args:=by simp
       rw[aN,bn] at bo;rw[bo];exact bm
      have aa:=step_defer (cs:=cs) iv tW t2 hinv;obtain⟨fZ,e3,w2,ie,arx,bt,bw,dh,sb,Tu,p4,ve⟩:=bl {fr with defers:=e5} cs hm;have asx:gd≠.run->ie≠.run:=fun q dz=>by rw[dz] at sb;cases gd<;>first|exact q rfl|exact sb.elim
      cases aN with
      |outgrown=>cases he
      |returned v=>
       cases w2 with
       |returned v'=>
        simp only at he;by_cases Wn:gd=.run
        ·exfalso;rw[Wn] at he
         --a running frame arb not leave
         have:settle FrameMode.run=.run:=rfl;rw[this] at he;exact(aeo (P:=P) (E:=E) he).elim
        have ae:=step_going_returned (P:=P) (c:={{fr with defers:=e5} with mode:=ie}) (cs:=cs) p4 ve;obtain⟨rZ,iD,bn,AW,g1,g2,g3,g4,g5,g6,g7⟩:=aK (settle gd) H1 e H' he fZ e3 {{{fr with defers:=e5} with mode:=ie} with mode:=settle ie} cs bt (aD.mono bw.ext) (xn.mono bw.ext) (anx sb) (anw Wn) aC;exact⟨rZ,iD,bn,AW,g1,bw.trans g2,g3,(Steps.head aa (Steps.trans Tu (.one ae))).trans g4,g5,g6,g7⟩
       |panicked c=>exact dh.elim
       |outgrown=>exact dh.elim
      |panicked bU=>
       cases w2 with
       |returned v'=>exact dh.elim
       |outgrown=>exact dh.elim
       |panicked AG=>
        simp only at he;have ae:=step_going_panicked (P:=P) (c:={{fr with defers:=e5} with mode:=ie}) (cs:=cs) ve;obtain⟨rZ,iD,bn,AW,g1,g2,g3,g4,g5,g6,g7⟩:=aK (raised gd bU) H1 e H' he fZ e3 {{{fr with defers:=e5} with mode:=ie} with mode:=raised ie AG} cs bt (aD.mono bw.ext) (xn.mono bw.ext) (amO sb dh) amN aC;exact⟨rZ,iD,bn,AW,g1,bw.trans g2,g3,(Steps.head aa (Steps.trans Tu (.one ae))).trans g4,g5,g6,g7⟩
   ·rw[t1] at he;simp only at he;cases n8:H.mem.get r with
    |none=>rw[n8] at he;cases he
    |some b=>
     rw[n8] at he;cases b with
     |iT o=>
      cases o with
      |none=>cases he
      |some l=>
       cases l with
       |cons x y=>cases he
       |nil=>
        simp only at he;cases aq:Nat.ble H.bZ r with
        |false=>rw[aq] at he;cases he
        |true=>
         rw[aq,cb] at he;have aq:=h3 aq;cases HJ:H.upd r (.iT none) with
         |none=>rw[HJ] at he;cases he
         |some H1=>
          rw[HJ] at he;obtain⟨CZ,QC,bd,a6,b9⟩:=h.fP r L t2;rw[n8] at bd;injection bd with bd;subst bd
          cases QC with
          |deferred AN=>
           obtain⟨rfl,_⟩:=b9;obtain⟨bt,bw⟩:=h.apo t2 aq n8 (fun _ _ _ _ _ _ q=>by cases q) (fun q=>by cases q) HJ (fun _ _ _ _ _ _ q=>by cases q) (o':=.deferred none) (b':=.iT none) ⟨rfl,.inr rfl⟩;have Wl:(Instr.takeDeferred L.r).run P w=.ok [] {w with heap:=w.heap.setIfInBounds L.r (.deferred none)}:=by
            simp[Instr.takeDeferred,getObj,setObj,Sem.run,a6]
           have aa:step P (lone fr cs w)=.next (lone {fr with defers:=e5} cs {w with heap:=w.heap.setIfInBounds L.r (.deferred none)}):=by
            refine step_lone_go ?_;obtain⟨ard,ara⟩:=k2;simp only at t3;subst t3;cases Hm:fr.mode with
            |run=>exact absurd Hm iv
            |returning=>simp[stepG,unwind,Hm,tW,Wl]
            |panicking bU=>simp[stepG,unwind,Hm,tW,Wl]
           obtain⟨rZ,iD,bn,AW,g1,g2,g3,g4,g5,g6,g7⟩:=aK u H1 e H' he μ _ {fr with defers:=e5} cs bt aD xn hm hu aC;exact⟨rZ,iD,bn,AW,g1,bw.trans g2,g3,.head aa g4,g5,g6,g7⟩
          |_=>exact b9.elim
     |_=>cases he
end
end
end Go.Cre

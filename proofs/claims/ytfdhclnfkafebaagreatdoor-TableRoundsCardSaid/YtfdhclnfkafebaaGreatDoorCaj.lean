/- A part of the proof of TableRounds. -/
import Derived.Test.YtfdhclnfkafebaaGreatDoorCai
import Derived.Laws.Sem
set_option linter.unusedVariables false
set_option linter.unusedSimpArgs false
namespace Go.Cre
noncomputable section
open Go.RowKit
open Classical
section
variable {P:Program}{B:Nat->Prop}{w0 w:World}{μ km:b5}{H H0 H' H1:aw}{S jT aP bl:a5}{fr:Frame}{tmps:Array Value}{ds:List Deferred}{cs kH:List Frame}{call:eZ}{aQ:hd}
variable {ops:Array Oper}{ct dp C K G:Nat}{D:Nat->Bool}{A:Nat->Nat}{i:Nat}{o:Oper}{k:List Item}{rest:List Nat}
def mb(listed:Array Bool):Nat->Bool:=fun i=>listed.getD i false
theorem SH{listed:Array Bool}{i:Nat}(ar:i<listed.size):mb (listed.setIfInBounds i true)=ni (mb listed) i:=by
 funext j
 unfold mb ni;by_cases h:j=i
 ·subst h;simp[ar]
 ·rw[bd h];simp[SA (Ne.symm h)]
theorem anj{listed:Array Bool}(ea:listed.size=ops.size){i:Nat}(ar:i∈Region.ready .any ops listed):∃o,ops[i]?=some o/\i<ops.size/\mb listed i=false/\∀j,(Oper.jb o).testBit j=true->mb listed j=true:=by
 unfold Region.ready at ar;simp only[List.mem_filter,S5,gI,s7] at ar;obtain⟨ad,af,aV⟩:=ar;have cA:i<listed.size:=by omega
 refine⟨ops[i],by simp[ad],ad,by unfold mb;simp[cA] at af ⊢;exact af,fun j bf=>?_⟩;unfold Oper.jb at bf;obtain⟨e,he,ak,rfl⟩:=UE.1 bf;simp only[zA ad,IY,Tn,aaY] at aV;have:=aV e (by simpa using he);rw[ak] at this;simpa[mb] using this
theorem ank(ag:wb ops.toList ct){listed:Array Bool}(ea:listed.size=ops.size):∀m,m<ops.size->mb listed m=false->Region.ready .any ops listed≠[]:=by
 intro m;induction m using Nat.strongRecOn with
 |ind m aZ=>
  intro hm aq;by_cases nv:∀j,(Oper.jb ops[m]).testBit j=true->mb listed j=true
  ·intro Pn;have:m∈Region.ready .any ops listed:=by
    unfold Region.ready;simp only[List.mem_filter,S5,gI,s7];refine⟨hm,?_,?_⟩
    ·have cA:m<listed.size:=by omega
     unfold mb at aq;simp[cA] at aq ⊢;exact aq
    ·simp only[zA hm,IY,Tn,aaY];intro e he;cases ak:Region.binds .any e with
     |false=>rfl
     |true=>
      have:=nv e.on (UE.2 ⟨e,by simpa using he,ak,rfl⟩);simpa[mb] using this
   rw[Pn] at this;cases this
  ·simp only[Classical.not_forall] at nv;obtain⟨j,bf,ahV⟩:=nv;have cA:=ag.down m ops[m] j (by simp[hm]) bf
   exact aZ j cA (by omega) (by cases h:mb listed j with
    |false=>rfl
    |true=>exact absurd h ahV)
theorem ad5{listed:Array Bool}(h:listed.toList.count false=0):∀i,i<listed.size->mb listed i=true:=fun i ar=>by
 have aO:=List.count_eq_zero.1 h;unfold mb;cases ak:listed.getD i false with
 |true=>rfl
 |false=>
  exfalso;refine aO ?_;have:listed[i]=false:=by simpa[ar] using ak
  rw[<-this];simp
theorem count_set{listed:Array Bool}{i n:Nat}(ar:i<listed.size)(aM:mb listed i=false)(aJ:listed.toList.count false=n+1):(listed.setIfInBounds i true).toList.count false=n:=by
 have ak:listed[i]=false:=by unfold mb at aM;simpa[ar] using aM
 have:(listed.setIfInBounds i true).toList=listed.toList.set i true:=by simp
 rw[this,List.count_set (by simpa using ar)];simp[ak,aJ]
theorem af8(nv:∀i,C.testBit i=true->D i=true)(t:Nat):free ops.toList C D t=true:=Ah.2 fun⟨j,_,a,b,_,_⟩=>by
 rw[nv j a] at b;cases b
theorem ae2(ih:p0 P B w0 call)(pC:yh P B w0 aQ)(ag:wb ops.toList ct)(h2:∀(i:Nat) o,ops.toList[i]?=some o->dp.testBit i=false->yZ o.op=false){b1:dI}:
 ∀(fuel ui:Nat) (listed:Array Bool) (a':List jP) (C K G:Nat) (S:a5) (H:aw) (A:Nat->Nat) (μ:b5) (w:World) (tmps:Array Value) (ds:List Deferred) (cs:List Frame),
 Inv P B w0 call aQ ops.toList ct dp km H0 jT fr kH C K G S H μ w tmps ds cs (mb listed) A->oo ops.toList ct dp C K G a'=true->dU P call aQ ops.toList a' S H=some b1->
 (a'=[]\/∃i rest,a'=.bR i::rest)->listed.size=ops.size->listed.toList.count false=fuel->
 lj P B w0 km H0 jT fr kH (lone (bY fr tmps ds (.inRegion ops (Region.linearise.go .any ops fuel ui listed [])::k)) cs w) k b1:=by
 intro fuel;induction fuel with
 |zero=>
  intro ui listed a' C K G S H A μ w tmps ds cs aH ap he fa ea J0;have nv:=ad5 J0;have hx:∀i,i<ops.size->C.testBit i=true:=fun i ar=>aH.sub i (nv i (by omega));rcases fa with rfl|⟨i,rest,rfl⟩
  ·have he:some (dI.ok S H)=some b1:=he;injection he with he;subst he
   refine⟨μ,w,tmps,ds,cs,aH.h,aH.kB,?_,aH.Cp,aH.cb,aH.cP,.one RO⟩;refine aH.f.conv rfl rfl rfl rfl rfl fun t v q=>y8.2 ⟨af8 (fun i ar=>?_) t,q⟩;obtain⟨o,aj⟩:=aH.EW i ar;have:i<ops.toList.length:=(gS.1 aj).1;exact nv i (by simp at this;omega)
  ·exfalso;simp only[oo,gI] at ap;have aM:=ap.1.1.1.1.1;unfold fits at aM;rw[lH] at aM;cases aj:ops.toList[i]? with
   |none=>rw[aj] at aM;simp at aM
   |some o=>
    have:i<ops.toList.length:=(gS.1 aj).1;have:=hx i (by simpa using this);simp[this] at aM
 |succ fuel aZ=>
  intro ui listed a' C K G S H A μ w tmps ds cs aH ap he fa ea J0;have eh:Region.ready .any ops listed≠[]:=by
   have:0<listed.toList.count false:=by omega
   rw[List.count_pos_iff] at this;obtain⟨m,hm,e⟩:=List.mem_iff_getElem.1 this;have Pf:m<listed.size:=by simpa using hm
   refine ank ag ea m (by omega) ?_;unfold mb;simp at e;simp[Pf,e]
  simp only[Region.linearise.go]
  change lj P B w0 km H0 jT fr kH (lone (bY fr tmps ds (.inRegion ops (match(Region.ready .any ops listed)[ui % (Region.ready .any ops listed).length]? with
   |some i=>Region.linearise.go .any ops fuel (ui / (Region.ready .any ops listed).length) (listed.setIfInBounds i true) [i]
   |none=>[].reverse)::k)) cs w) k b1
  cases ar:(Region.ready .any ops listed)[ui % (Region.ready .any ops listed).length]? with
  |none=>
   exfalso;have Gk:0<(Region.ready .any ops listed).length:=List.length_pos_iff.2 eh;have cA:=fJ ui Gk;rw[eE cA] at ar;cases ar
  |some i=>
   simp only
   rw[linearise_go_acc,List.reverse_singleton,abw];obtain⟨o,aj,cA,CJ,sw⟩:=anj ea (jS ar);have iP:ops.toList[i]?=some o:=by simpa using aj
   have Ka:i<listed.size:=by omega
   have Kl:(listed.setIfInBounds i true).size=ops.size:=by simpa using ea
   have oI:∀j,C.testBit j=true->K.testBit j=true\/G.testBit j=true:=fun j bf=>by
    have rk:sub C (Nat.lor K G)=true:=by
     rcases fa with rfl|⟨WW,rest,rfl⟩
     ·simp only[oo,gI] at ap;exact ap.2
     ·simp only[oo,gI] at ap;exact ap.1.1.2
    have:=RS rk bf;rw[zq,x6] at this;exact this
   cases hx:C.testBit i with
   |true=>
    obtain⟨bw,bn,hc,fb,cN,dR,FP⟩:=anm (k:=k) (rest:=Region.linearise.go .any ops fuel (ui / (Region.ready .any ops listed).length) (listed.setIfInBounds i true) []) ih pC ag aH oI hx CJ aj sw;rw[<-SH Ka] at FP;exact(aZ _ _ a' C K G S H A bw bn hc fb cN FP ap he fa Kl (count_set Ka CJ J0)).steps dR
   |false=>
    rcases fa with rfl|⟨WW,rest,rfl⟩
    ·exfalso;simp only[oo,gI] at ap;have:=ajW ap.1 i (by simpa using cA);rw[hx] at this;cases this
    ·have rj:=ap;simp only[oo,gI] at ap;obtain⟨⟨⟨⟨⟨dr,hC⟩,oX⟩,DV⟩,xH⟩,zb⟩:=ap;have aif:i=WW:=by
      have:=alV oX i o iP;rw[j7] at this;rcases this with q|q|q
      ·rw[hx] at q;cases q
      ·exact q
      ·exfalso;have aja:sub (Oper.jb o) C=true:=by
        unfold sub;have:Nat.land (Oper.jb o) C=Oper.jb o:=by
         apply abF
         intro j;rw[LK];cases bf:(Oper.jb o).testBit j with
         |false=>rfl
         |true=>rw[aH.sub j (sw j bf)];rfl
        rw[this];simp
       rw[aja] at q;cases q
     subst aif;rw[lH,iP] at xH;simp only[gI] at xH;have he:Option.rec (motive:=fun _=>Option dI) none (fun o=>kG (dU P call aQ ops.toList rest) (one P call aQ ops.toList S H o)) (nth ops.toList i)=some b1:=he;rw[lH,iP] at he;have he:kG (dU P call aQ ops.toList rest) (one P call aQ ops.toList S H o)=some b1:=he;cases oN:one P call aQ ops.toList S H o with
     |none=>rw[oN] at he;cases he
     |some dQ=>
      rw[oN] at he;cases dQ with
      |jc c bl H1=>cases he
      |ok bl H1=>
       have he:dU P call aQ ops.toList rest bl H1=some b1:=he;obtain⟨bw,bn,hc,fb,cN,dR,FP⟩:=anl (k:=k) (rest:=Region.linearise.go .any ops fuel (ui / (Region.ready .any ops listed).length) (listed.setIfInBounds i true) []) ih pC ag aH hx aj sw oN rfl (fun j bf=>RS xH.1 bf) xH.2;rw[<-SH Ka] at FP;obtain⟨rD,vU,ow,aP,H',pZ,aX,aU,b0,dN⟩:=Ui ag h2 rest _ _ bl H1 A FP zb he;exact(aZ _ _ rD vU _ ow aP H' pZ bw bn hc fb cN aX aU b0 dN Kl (count_set Ka CJ J0)).steps dR
theorem aft(oL:P.follows .mixedOrders=true)(ih:p0 P B w0 call)(pC:yh P B w0 aQ)(h:cd P B w0 μ H w)(aM:ib μ S fr tmps ds cs){b1:dI}{id:Nat}(he:Ab P call aQ ops.toList S H=some b1):
 lj P B w0 μ H S fr cs (lone (bY fr tmps ds (.code (.region id ops true)::k)) cs w) k b1:=by
 unfold Ab at he;cases aq:Fp ops.toList with
 |false=>rw[aq] at he;cases he
 |true=>
  rw[aq,cv] at he;unfold Fp at aq;simp only[gI] at aq;obtain⟨F1,J3⟩:=aq;have ag:=an' F1;have h2:∀(i:Nat) o,ops.toList[i]?=some o->(yj ops.toList 0).testBit i=false->yZ o.op=false:=fun i o aj ak=>by
   cases aI:yZ o.op with
   |false=>rfl
   |true=>
    have:=acf (k:=0) aj aI;rw[j7,ak] at this;cases this
  refine lj.steps (.one aoi) ?_;simp only[Region.schedule,oL,Bool.true_or,Kz];have aL:∀i,Nat.testBit 0 i=false:=fun i=>Nat.zero_testBit i;have tx:∀i,mb (Array.replicate ops.size false) i=false:=fun i=>by
   unfold mb;by_cases ar:i<ops.size
   ·simp[ar]
   ·simp[ar]
  have aH:Inv P B w0 call aQ ops.toList (Cm ops.toList ops.toList 0) (yj ops.toList 0) μ H S fr cs 0 0 0 S H μ {w with drawn:=w.drawn+1} tmps ds cs (mb (Array.replicate ops.size false)) (fun _=>0):=by
   refine⟨h.drawn _,?_,Step.refl _ _,kn.refl _ _ aM.vb,rfl,rfl,fun i ar=>?_,fun i ar=>?_,fun i o j ar=>?_,fun i o j ar=>?_,fun i ar=>?_,fun i o ar=>?_,fun i j Rb er ar=>?_⟩
   ·exact aM.conv rfl rfl rfl rfl rfl fun t v q=>(y8.1 q).2
   ·rw[tx] at ar;cases ar
   ·rw[aL] at ar;cases ar
   ·rw[tx] at ar;cases ar
   ·rw[aL] at ar;cases ar
   ·rw[aL] at ar;cases ar
   ·rw[aL] at ar;cases ar
   ·rw[aL] at ar;cases ar
  obtain⟨rD,vU,ow,aP,H',pZ,aX,aU,b0,dN⟩:=Ui ag h2 (Lq ops.toList) _ _ S H _ aH J3 he;unfold Region.linearise;exact ae2 ih pC ag h2 ops.size _ _ rD vU _ ow aP H' pZ μ _ tmps ds cs aX aU b0 dN (by simp) (by simp)
end
end
end Go.Cre
namespace Go.Cre
noncomputable section
open Go.RowKit
open Classical
section
variable {P:Program}{B:Nat->Prop}{w0 w:World}{μ km:b5}{H H0 H' H1:aw}{S jT aP bl:a5}{fr:Frame}{tmps:Array Value}{ds:List Deferred}{cs kH:List Frame}{call:eZ}{aQ:hd}
variable {ops:Array Oper}{l:List Oper}{ct dp C K G:Nat}{D:Nat->Bool}{A:Nat->Nat}{i:Nat}{o:Oper}{k:List Item}{rest:List Nat}
end
end
end Go.Cre
namespace Go.Cre
noncomputable section
open Go.RowKit
open Classical
section
variable {P:Program}{call:eZ}{aQ:hd}
end
end
end Go.Cre
namespace Go.Cre
noncomputable section
open Go.RowKit
open Classical
def aa4(P:Program)(B:Nat->Prop)(w0:World)(call:eZ):Prop:=∀(iu:Nat->Prop) (iS:World),(∀k,B k->iu k)->Kept B w0 iS->p0 P iu iS call
def abX(P:Program)(B:Nat->Prop)(w0:World)(aQ:hd):Prop:=∀(iu:Nat->Prop) (iS:World),(∀k,B k->iu k)->Kept B w0 iS->yh P iu iS aQ
section
variable {P:Program}{B iu:Nat->Prop}{w0 w bn:World}{μ bw km:b5}{H H0 H' H1:aw}{S jT aP bl:a5}{fr:Frame}{tmps:Array Value}{ds:List Deferred}{cs kH:List Frame}{call:eZ}{aQ:hd}
variable {ops:Array Oper}{l:List Oper}{ct dp C K G:Nat}{D:Nat->Bool}{A:Nat->Nat}{i:Nat}{o:Oper}{k:List Item}{rest:List Nat}{ws a m:Nat}{es:List (Nat×Value×Value)}
end
end
end Go.Cre
namespace Go.Cre
noncomputable section
open Go.RowKit
open Classical
section
variable {P:Program}{ops:Array Oper}{L:Lit}{l:List Oper}{ct dp:Nat}{key el:TypeId}{aj4:TypeDesc}{es:List (Nat×Value×Value)}{a:Nat}{abU:a5}{i:Nat}{o:Oper}
end
section
variable {P:Program}{B:Nat->Prop}{w0 atW:World}{km:b5}{H0 cz aqX:aw}{jT abU gd:a5}{fr:Frame}{kH:List Frame}{call:eZ}{aQ:hd}
variable {ops:Array Oper}{L:Lit}{l:List Oper}{ct dp:Nat}{key el:TypeId}{aj4:TypeDesc}{es:List (Nat×Value×Value)}{a bA:Nat}{k:List Item}
end
end
end Go.Cre
namespace Go.Cre
noncomputable section
open Go.RowKit
structure Reached (P:Program) (B:Nat->Prop) (w0:World) (μ:b5) (H:aw) (S:a5) (fr:Frame) (cs:List Frame) (aP:a5) (H':aw) (bw:b5) (bn:World) (hc:Array Value) (fb:List Deferred) (cN:List Frame):Prop where
 h:cd P B w0 bw H' bn
 kB:Step μ bw H H'
 f:ib bw aP fr hc fb cN
 c:kn S.cb cs cN
 cb:aP.cb=S.cb
 cP:aP.cP=S.cP
def ma(P:Program)(B:Nat->Prop)(w0:World)(μ:b5)(H:aw)(S:a5)(fr:Frame)(cs:List Frame)(m:Machine)(k:List Item)(aP:a5)(H':aw):Exit->Prop
 |.normal=>∃bw bn hc fb cN,Reached P B w0 μ H S fr cs aP H' bw bn hc fb cN/\Steps P m (lone (bY fr hc fb k) cN bn)
 |.exit id=>∃bw bn hc fb cN lB,Reached P B w0 μ H S fr cs aP H' bw bn hc fb cN/\exitTo id lB=exitTo id k/\Steps P m (lone (bY fr hc fb (.code (.exit id)::lB)) cN bn)
 |.ret=>∃bw bn hc fb cN lB,Reached P B w0 μ H S fr cs aP H' bw bn hc fb cN/\Steps P m (lone (bY fr hc fb (.code .ret::lB)) cN bn)
 |.panic chain=>∃bw bn hc fb cN E9 lB,Reached P B w0 μ H S fr cs aP H' bw bn hc fb cN/\iT bw chain E9/\Steps P m (lone {bY fr hc fb lB with mode:=.panicking E9} cN bn)
 |_=>False
def yf(c:Code)(it:Item):Prop:=it=.code c\/∃c',c=.loop c'/\it=.inLoop c'
def rT(P:Program)(B:Nat->Prop)(w0:World)(code:Code->a5->aw->Option (Exit×a5×aw)):Prop:=
 ∀c S H e aP H',code c S H=some (e,aP,H')->∀μ w fr tmps ds cs k it,cd P B w0 μ H w->ib μ S fr tmps ds cs->yf c it->ma P B w0 μ H S fr cs (lone (bY fr tmps ds (it::k)) cs w) k aP H' e
section
variable {P:Program}{B:Nat->Prop}{w0 w:World}{μ fm:b5}{H H1 H':aw}{S bl aP:a5}{fr:Frame}{tmps:Array Value}{ds:List Deferred}{cs gA:List Frame}{m m':Machine}{k a7:List Item}{e:Exit}
theorem Reached.trans{jO:b5}{gd:a5}{cz:aw}{bm bW:World}{t1 t2:Array Value}{d1 d2:List Deferred}{Fg:List Frame}(h:Reached P B w0 μ H S fr cs bl H1 fm bm t1 d1 gA)(q:Reached P B w0 fm H1 bl fr gA gd cz jO bW t2 d2 Fg):
 Reached P B w0 μ H S fr cs gd cz jO bW t2 d2 Fg:=
 ⟨q.h,h.kB.trans q.kB,q.f,h.c.trans (h.cb▸q.c),q.cb.trans h.cb,q.cP.trans h.cP⟩
theorem Reached.refl(h:cd P B w0 μ H w)(aM:ib μ S fr tmps ds cs):Reached P B w0 μ H S fr cs S H μ w tmps ds cs:=
 ⟨h,Step.refl _ _,aM,kn.refl _ _ aM.vb,rfl,rfl⟩
theorem ma.steps(ag:Steps P m m')(h:ma P B w0 μ H S fr cs m' k aP H' e):ma P B w0 μ H S fr cs m k aP H' e:=by
 cases e with
 |normal=>obtain⟨bO,bA,cU,dn,cK,e6,fK⟩:=h;exact⟨bO,bA,cU,dn,cK,e6,ag.trans fK⟩
 |exit id=>obtain⟨bO,bA,cU,dn,cK,e6,fK,kV,nR⟩:=h;exact⟨bO,bA,cU,dn,cK,e6,fK,kV,ag.trans nR⟩
 |ret=>obtain⟨bO,bA,cU,dn,cK,e6,fK,kV⟩:=h;exact⟨bO,bA,cU,dn,cK,e6,fK,ag.trans kV⟩
 |panic ct=>obtain⟨bO,bA,cU,dn,cK,e6,fK,kV,nR,uM⟩:=h;exact⟨bO,bA,cU,dn,cK,e6,fK,kV,nR,ag.trans uM⟩
 |goto l=>exact h
 |outgrown=>exact h
theorem ma.after{bm:World}{t1:Array Value}{d1:List Deferred}(av:Reached P B w0 μ H S fr cs bl H1 fm bm t1 d1 gA)(h:ma P B w0 fm H1 bl fr gA m k aP H' e):ma P B w0 μ H S fr cs m k aP H' e:=by
 cases e with
 |normal=>obtain⟨bO,bA,cU,dn,cK,e6,fK⟩:=h;exact⟨bO,bA,cU,dn,cK,av.trans e6,fK⟩
 |exit id=>obtain⟨bO,bA,cU,dn,cK,e6,fK,kV,nR⟩:=h;exact⟨bO,bA,cU,dn,cK,e6,av.trans fK,kV,nR⟩
 |ret=>obtain⟨bO,bA,cU,dn,cK,e6,fK,kV⟩:=h;exact⟨bO,bA,cU,dn,cK,e6,av.trans fK,kV⟩
 |panic ct=>obtain⟨bO,bA,cU,dn,cK,e6,fK,kV,nR,uM⟩:=h;exact⟨bO,bA,cU,dn,cK,e6,fK,av.trans kV,nR,uM⟩
 |goto l=>exact h
 |outgrown=>exact h
theorem ma.bind(h:ma P B w0 μ H S fr cs m a7 bl H1 .normal)
 (hk:∀fm bm t1 d1 gA,Reached P B w0 μ H S fr cs bl H1 fm bm t1 d1 gA->ma P B w0 fm H1 bl fr gA (lone (bY fr t1 d1 a7) gA bm) k aP H' e):ma P B w0 μ H S fr cs m k aP H' e:=by
 obtain⟨fm,bm,t1,d1,gA,av,dR⟩:=h;exact((hk fm bm t1 d1 gA av).after av).steps dR
theorem ma.pass{x:Item}(ab:∀id,e=.exit id->exitTo id (x::k)=exitTo id k)(aE:e≠.normal)(h:ma P B w0 μ H S fr cs m (x::k) aP H' e):ma P B w0 μ H S fr cs m k aP H' e:=by
 cases e with
 |normal=>exact absurd rfl aE
 |exit id=>obtain⟨bO,bA,cU,dn,cK,e6,fK,kV,nR⟩:=h;exact⟨bO,bA,cU,dn,cK,e6,fK,kV.trans (ab id rfl),nR⟩
 |ret=>exact h
 |panic ct=>exact h
 |goto l=>exact h
 |outgrown=>exact h
theorem Ru{b1:dI}(he:uf (some b1)=some (e,aP,H'))(h:lj P B w0 μ H S fr cs m k b1):ma P B w0 μ H S fr cs m k aP H' e:=by
 cases b1 with
 |ok bl H1=>
  simp only[uf,cD,dK] at he;obtain⟨rfl,rfl,rfl⟩:=he;obtain⟨a,b,c,d,x,ck,ch,c6,gg,gh,hg,gW⟩:=h;exact⟨a,b,c,d,x,⟨ck,ch,c6,gg,gh,hg⟩,gW⟩
 |jc ct bl H1=>
  simp only[uf,cD,dK] at he;obtain⟨rfl,rfl,rfl⟩:=he;obtain⟨a,b,c,d,x,y,z,ck,ch,c6,gg,gh,hg,gW,qk⟩:=h;exact⟨a,b,c,d,x,y,z,⟨ck,ch,c6,gg,gh,hg⟩,gW,qk⟩
theorem Zt{E:fN}{b:Code}{r:Option (Exit×a5×aw)}{x:Item}(aJ:rT P B w0 E.code)(dR:yf b x)(ab:∀id,exitTo id (x::k)=exitTo id k)
 (av:∀aC bl H1,r=some (aC,bl,H1)->ma P B w0 μ H S fr cs m (x::k) bl H1 aC)(he:E7 E b r=some (e,aP,H')):ma P B w0 μ H S fr cs m k aP H' e:=by
 cases r with
 |none=>cases he
 |some p=>
  obtain⟨aC,bl,H1⟩:=p;have ad:=av aC bl H1 rfl;by_cases aE:aC=.normal
  ·subst aE;have he:E.code b bl H1=some (e,aP,H'):=he;exact ad.bind fun fm bm t1 d1 gA l2=>aJ b bl H1 e aP H' he fm bm fr t1 d1 gA k x l2.h l2.f dR
  ·have he:some (aC,bl,H1)=some (e,aP,H'):=by
    cases aC<;>first|exact absurd rfl aE|exact he
   simp only[cD,dK] at he;obtain⟨rfl,rfl,rfl⟩:=he;exact ad.pass (fun id _=>ab id) aE
def Ts(P:Program)(B:Nat->Prop)(w0:World)(E:fN):Prop:=
 ∀f params assign body S H e aP H',JA P E f params assign body S H=some (e,aP,H')->∀μ w fr tmps ds cs k,cd P B w0 μ H w->ib μ S fr tmps ds cs->
  ma P B w0 μ H S fr cs (lone (bY fr tmps ds (.code (.rangeFunc f params assign body)::k)) cs w) k aP H' e
theorem UO{E:fN}(oL:P.follows .mixedOrders=true)(aJ:rT P B w0 E.code)(ahN:aa4 P B w0 E.call)(ajz:abX P B w0 E.aQ)(aiT:Ts P B w0 E):rT P B w0 (Jv P E):=by
 have ih:=ahN B w0 (fun _ h=>h) (Kept.refl _ _);have pC:=ajz B w0 (fun _ h=>h) (Kept.refl _ _);intro c S H e aP H' he μ w fr tmps ds cs k it h aM dR;have su:(∀c',c≠.loop c')->it=.code c:=fun ei=>by
  rcases dR with q|⟨c',q,_⟩
  ·exact q
  ·exact absurd q (ei c')
 unfold Jv at he;cases c with
 |skip=>
  obtain rfl:=su (fun _ q=>by cases q);have he:some (Exit.normal,S,H)=some (e,aP,H'):=he;simp only[cD,dK] at he;obtain⟨rfl,rfl,rfl⟩:=he;exact⟨μ,w,tmps,ds,cs,.refl h aM,.one aoz⟩
 |label l=>
  obtain rfl:=su (fun _ q=>by cases q);have he:some (Exit.normal,S,H)=some (e,aP,H'):=he;simp only[cD,dK] at he;obtain⟨rfl,rfl,rfl⟩:=he;exact⟨μ,w,tmps,ds,cs,.refl h aM,.one aon⟩
 |exit id=>
  obtain rfl:=su (fun _ q=>by cases q);have he:some (Exit.exit id,S,H)=some (e,aP,H'):=he;simp only[cD,dK] at he;obtain⟨rfl,rfl,rfl⟩:=he;exact⟨μ,w,tmps,ds,cs,k,.refl h aM,rfl,.refl P _⟩
 |ret=>
  obtain rfl:=su (fun _ q=>by cases q);have he:some (Exit.ret,S,H)=some (e,aP,H'):=he;simp only[cD,dK] at he;obtain⟨rfl,rfl,rfl⟩:=he;exact⟨μ,w,tmps,ds,cs,k,.refl h aM,.refl P _⟩
 |goto l=>cases he
 |refuse atU=>cases he
 |region id ops d=>
  obtain rfl:=su (fun _ q=>by cases q);cases d with
  |false=>
   have he:uf (Cx P E.call E.aQ ops.toList ops.toList S H)=some (e,aP,H'):=he;cases av:Cx P E.call E.aQ ops.toList ops.toList S H with
   |none=>rw[av] at he;cases he
   |some b1=>
    rw[av] at he;have:=afD (k:=k) (fr:=fr) ih pC ops.toList 0 μ w S H tmps ds cs b1 (by simp) h aM av;have aC:List.range' 0 ops.toList.length=List.range ops.size:=by rw[abu];simp
    rw[aC] at this;exact(Ru he this).steps (.one ZT)
  |true=>
   have he:uf (yz P E.call E.aQ ops.toList S H)=some (e,aP,H'):=he;cases av:yz P E.call E.aQ ops.toList S H with
   |none=>rw[av] at he;cases he
   |some b1=>
    rw[av] at he;refine Ru he ?_;unfold yz at av;cases aD:KI ops.toList with
    |none=>rw[aD] at av;exact aft oL ih pC h aM av
    |some L=>rw[aD] at av;cases av
 |seq a b=>
  obtain rfl:=su (fun _ q=>by cases q);have he:E7 E b (E.code a S H)=some (e,aP,H'):=he;exact Zt aJ (.inl rfl) (fun id=>rfl) (fun aC bl H1 q=>(aJ a S H aC bl H1 q μ w fr tmps ds cs (.code b::k) (.code a) h aM (.inl rfl)).steps (.one RP)) he
 |cond x a b=>
  obtain rfl:=su (fun _ q=>by cases q);have he:Jn E S H a b (ba S.T H x)=some (e,aP,H'):=he;cases ab:ba S.T H x with
  |none=>rw[ab] at he;cases he
  |some v=>
   rw[ab] at he;have az:=ua h aM.t ab;cases v with
   |bool t=>
    have ak:=az.EV;cases t with
    |true=>
     have he:E.code a S H=some (e,aP,H'):=he;exact(aJ a S H e aP H' he μ w fr tmps ds cs k (.code a) h aM (.inl rfl)).steps (.one (ZP ak))
    |false=>
     have he:E.code b S H=some (e,aP,H'):=he;exact(aJ b S H e aP H' he μ w fr tmps ds cs k (.code b) h aM (.inl rfl)).steps (.one (ZP ak))
   |_=>cases he
 |block id c=>
  obtain rfl:=su (fun _ q=>by cases q);have he:M4 id (E.code c S H)=some (e,aP,H'):=he;cases av:E.code c S H with
  |none=>rw[av] at he;cases he
  |some p=>
   obtain⟨aC,bl,H1⟩:=p;rw[av] at he;have ad:=(aJ c S H aC bl H1 av μ w fr tmps ds cs (.inBlock id::k) (.code c) h aM (.inl rfl)).steps (.one (aog (P:=P)));cases aC with
   |exit mg=>
    have he:(bif Nat.beq mg id then some (Exit.normal,bl,H1) else some (Exit.exit mg,bl,H1))=some (e,aP,H'):=he;obtain⟨bO,bA,cU,dn,cK,e6,fK,kV,nR⟩:=ad;cases ak:Nat.beq mg id with
    |true=>
     rw[ak,cv] at he;simp only[cD,dK] at he;obtain⟨rfl,rfl,rfl⟩:=he;obtain rfl:=eC ak;have aC:exitTo mg (.inBlock mg::k)=some k:=by simp[exitTo]
     exact⟨bO,bA,cU,dn,cK,fK,nR.trans (.one (aok (kV.trans aC)))⟩
    |false=>
     rw[ak,dB] at he;simp only[cD,dK] at he;obtain⟨rfl,rfl,rfl⟩:=he;have eh:¬id=mg:=fun q=>by subst q;simp at ak
     have aC:exitTo mg (.inBlock id::k)=exitTo mg k:=by simp[exitTo,eh]
     exact⟨bO,bA,cU,dn,cK,e6,fK,kV.trans aC,nR⟩
   |normal=>
    have he:some (Exit.normal,bl,H1)=some (e,aP,H'):=he;simp only[cD,dK] at he;obtain⟨rfl,rfl,rfl⟩:=he;obtain⟨bO,bA,cU,dn,cK,e6,fK⟩:=ad;exact⟨bO,bA,cU,dn,cK,e6,fK.trans (.one aol)⟩
   |goto l=>exact ad.elim
   |ret=>
    have he:some (Exit.ret,bl,H1)=some (e,aP,H'):=he;simp only[cD,dK] at he;obtain⟨rfl,rfl,rfl⟩:=he;exact ad.pass (fun id q=>by cases q) (fun q=>by cases q)
   |panic ct=>
    have he:some (Exit.panic ct,bl,H1)=some (e,aP,H'):=he;simp only[cD,dK] at he;obtain⟨rfl,rfl,rfl⟩:=he;exact ad.pass (fun id q=>by cases q) (fun q=>by cases q)
   |outgrown=>exact ad.elim
 |loop c=>
  have he:E7 E (.loop c) (E.code c S H)=some (e,aP,H'):=he;have bD:step P (lone (bY fr tmps ds (it::k)) cs w)=.next (lone (bY fr tmps ds (.code c::.inLoop c::k)) cs w):=by
   rcases dR with rfl|⟨c',q,rfl⟩
   ·exact ZS
   ·injection q with q;subst q;exact ZR
  exact Zt aJ (.inr ⟨c,rfl,rfl⟩) (fun id=>rfl) (fun aC bl H1 q=>(aJ c S H aC bl H1 q μ w fr tmps ds cs (.inLoop c::k) (.code c) h aM (.inl rfl)).steps (.one bD)) he
 |scope c=>
  obtain rfl:=su (fun _ q=>by cases q);have he:Ud (E.code c S H)=some (e,aP,H'):=he;cases av:E.code c S H with
  |none=>rw[av] at he;cases he
  |some p=>
   obtain⟨aC,bl,H1⟩:=p;rw[av] at he;have ad:=(aJ c S H aC bl H1 av μ w fr tmps ds cs (.inScope c::k) (.code c) h aM (.inl rfl)).steps (.one (aoy (P:=P)));have he:some (aC,bl,H1)=some (e,aP,H'):=by cases aC<;>first|exact he|exact ad.elim
   simp only[cD,dK] at he;obtain⟨rfl,rfl,rfl⟩:=he;by_cases aE:aC=.normal
   ·subst aE;obtain⟨bO,bA,cU,dn,cK,e6,fK⟩:=ad;exact⟨bO,bA,cU,dn,cK,e6,fK.trans (.one aom)⟩
   ·exact ad.pass (fun id _=>rfl) aE
 |rangeFunc f params assign body=>
  obtain rfl:=su (fun _ q=>by cases q);have he:JA P E f params assign body S H=some (e,aP,H'):=he;exact aiT f params assign body S H e aP H' he μ w fr tmps ds cs k h aM
end
end
end Go.Cre
namespace Go.Cre
noncomputable section
open Go.RowKit
section
variable {P:Program}{B:Nat->Prop}{w0 w:World}{μ fm bw:b5}{H H1 H':aw}{S bl aP:a5}{fr:Frame}{tmps:Array Value}{ds:List Deferred}{cs gA:List Frame}
def HO (tmps:Array Value):ResultVar->Sem Value
 |.tmp t=>pure (tmps.getD t undef)
 |.cell a t=>do loadVar t (<-asAddr (tmps.getD a undef))
theorem afG(h:cd P B w0 μ H w){T:a4 Value}{n:Nat}(aS:kq μ T n tmps):∀{l:List ResultVar} {vs:List Value},qi P T H l=some vs->
 ∃nf,(l.mapM (HO tmps)).run P w=.ok nf w/\ca μ vs nf:=by
 intro l;induction l with
 |nil=>intro vs he;simp[qi] at he;subst he;exact⟨[],by simp,ca.nil _⟩
 |cons x l aZ=>
  intro vs he;cases x with
  |tmp t=>
   simp only[qi] at he;cases cB:T.get t with
   |none=>rw[cB] at he;cases he
   |some u=>
    rw[cB] at he;cases aD:qi P T H l with
    |none=>rw[aD] at he;cases he
    |some r=>
     rw[aD] at he;injection he with he;subst he
     obtain⟨nf,a,b⟩:=aZ aD;refine⟨tmps.getD t undef::nf,?_,ca.cons (aS.2 t u cB) b⟩;rw[S1];have e:HO tmps (.tmp t)=pure (tmps.getD t undef):=rfl;rw[e];simp only[Sem.run_bind,Sem.run_pure,Result.andThen,a]
  |cell c t=>
   simp only[qi] at he;cases cB:T.get c with
   |none=>rw[cB] at he;cases he
   |some u=>
    rw[cB] at he;simp only at he;cases az:Ad P H t u with
    |none=>rw[az] at he;cases he
    |some v=>
     rw[az] at he;cases aD:qi P T H l with
     |none=>rw[aD] at he;cases he
     |some r=>
      rw[aD] at he;injection he with he;subst he
      obtain⟨nf,a,b⟩:=aZ aD;have hu:=aS.2 c u cB;unfold Ad at az;cases u with
      |pointer p=>
       cases p with
       |none=>cases az
       |some p=>
        obtain⟨id,off,L,rfl,bB,bS⟩:=hu.oZ;simp only at az;obtain⟨v',ad,af⟩:=UP h bB az;refine⟨v'::nf,?_,ca.cons af b⟩;rw[S1];have e:(HO tmps (.cell c t)).run P w=.ok v' w:=by
         show(do loadVar t (<-asAddr (tmps.getD c undef)):Sem Value).run P w=_;rw[bS];simp[asAddr,ad]
        simp only[Sem.run_bind,e,Result.andThen,a,Sem.run_pure]
      |_=>cases az
theorem anr(h:cd P B w0 μ H w){T:a4 Value}{n:Nat}(aS:kq μ T n tmps){fn:Func}{vs:List Value}(he:qi P T H fn.results.toList=some vs):
 ∃v',(results fn tmps).run P w=.ok v' w/\bu μ (tZ vs) v':=by
 obtain⟨nf,a,b⟩:=afG h aS he;have hm:(fn.results.mapM (HO tmps)).run P w=.ok nf.toArray w:=by
  rw[aa2];simp[a]
 have av:results fn tmps=(do let vs <-fn.results.mapM (HO tmps);pure (if h:vs.size=1 then vs[0] else .tuple vs)):=by
  unfold results;congr 2
 rw[av];simp only[Sem.run_bind,hm,Result.andThen,Sem.run_pure];refine⟨_,rfl,?_⟩;by_cases ad:nf.length=1
 ·have af:vs.length=1:=b.1.trans ad;obtain⟨v,rfl⟩:=abp.1 af;obtain⟨v',rfl⟩:=abp.1 ad;simpa[tZ] using b.2 0 v v' rfl rfl
 ·have af:vs.length≠1:=fun q=>ad (b.1.symm.trans q);have e:tZ vs=.tuple vs.toArray:=by
   unfold tZ;split
   ·simp at af
   ·rfl
  rw[e];have:¬nf.toArray.size=1:=by simpa using ad
  rw[dif_neg this];exact bu.R1 b
theorem iT.k5{c':List PanicEntry}(h:iT μ [] c'):c'=[]:=kU h.1.symm
theorem iT.jH{x:PanicEntry}{c c':List PanicEntry}(h:iT μ (x::c) c'):∃dP d,c'=dP::d/\dP.recovered=x.recovered/\dP.goexit=x.goexit/\bu μ x.v dP.v/\iT μ c d:=by
 cases c' with
 |nil=>have:=h.1;simp at this
 |cons dP d=>
  obtain⟨a,b,e⟩:=h.2 0 x dP rfl rfl;exact⟨dP,d,rfl,a,b,e,by have:=h.1;simpa using this,fun i p q ap bS=>h.2 (i+1) p q (by simpa using ap) (by simpa using bS)⟩
theorem iT.nil(μ:b5):iT μ [] []:=⟨rfl,fun i e b3 h=>by simp at h⟩
theorem iT.cons{x dP:PanicEntry}{c c':List PanicEntry}(ad:dP.recovered=x.recovered)(af:dP.goexit=x.goexit)(aV:bu μ x.v dP.v)(h:iT μ c c'):iT μ (x::c) (dP::c'):=
 ⟨by simp[h.1],fun i p q ap bS=>by
  cases i with
  |zero=>simp at ap bS;subst ap;subst bS;exact⟨ad,af,aV⟩
  |succ i=>exact h.2 i p q (by simpa using ap) (by simpa using bS)⟩
theorem iT.append{a bV b b':List PanicEntry}(h:iT μ a bV)(k:iT μ b b'):iT μ (a++b) (bV++b'):=by
 induction a generalizing bV with
 |nil=>obtain rfl:=h.k5;exact k
 |cons x a aZ=>obtain⟨dP,d,rfl,ad,af,aV,bq⟩:=h.jH;exact .cons ad af aV (aZ bq)
theorem iT.dropWhile{a bV:List PanicEntry}(h:iT μ a bV):iT μ (a.dropWhile (!·.goexit)) (bV.dropWhile (!·.goexit)):=by
 induction a generalizing bV with
 |nil=>obtain rfl:=h.k5;exact .nil _
 |cons x a aZ=>
  obtain⟨dP,d,rfl,ad,af,aV,bq⟩:=h.jH;simp only[List.dropWhile,af];cases x.goexit with
  |true=>exact h
  |false=>exact aZ bq
theorem anR{u iF:FrameMode}(h:o8 μ u iF):o8 μ (settle u) (settle iF):=by
 cases u with
 |run=>cases iF<;>first|exact h.elim|trivial
 |returning=>cases iF<;>first|exact h.elim|trivial
 |panicking c=>
  cases iF with
  |run=>exact h.elim
  |returning=>exact h.elim
  |panicking c'=>
   have h:iT μ c c':=h;cases c with
   |nil=>obtain rfl:=h.k5;exact h
   |cons x c=>
    obtain⟨dP,d,rfl,ad,af,aV,bq⟩:=h.jH;obtain⟨BQ,aqz,aqx⟩:=x;obtain⟨Sp,So,aaT⟩:=dP;simp only at ad af aV;subst ad;subst af;cases So with
    |false=>exact h
    |true=>
     have aq:=bq.dropWhile;simp only[settle];cases bS:c.dropWhile (!·.goexit) with
     |nil=>rw[bS] at aq;rw[aq.k5];trivial
     |cons y r=>
      rw[bS] at aq;obtain⟨mO,cW,e,_⟩:=aq.jH;rw[e] at aq ⊢;exact aq
theorem am8{u iF:FrameMode}{c c':List PanicEntry}(h:o8 μ u iF)(aJ:iT μ c c'):o8 μ (raised u c) (raised iF c'):=by
 cases u with
 |run=>cases iF<;>first|exact h.elim|exact aJ
 |returning=>cases iF<;>first|exact h.elim|exact aJ
 |panicking d=>
  cases iF with
  |run=>exact h.elim
  |returning=>exact h.elim
  |panicking ln=>exact aJ.append h
theorem anQ{u:FrameMode}(h:u≠.run):settle u≠.run:=by
 unfold settle;split
 ·split<;>(intro q;cases q)
 ·exact h
theorem am7{u:FrameMode}{c:List PanicEntry}:raised u c≠.run:=by
 unfold raised;split<;>(intro q;cases q)
theorem afy{E:fN}{fn:Func}{T:a4 Value}{fQ:List Deferred}{r:Ending×aw}(h:iY P E fn T fQ .run H=some r):False:=by
 cases fQ with
 |nil=>simp[iY] at h
 |cons d l=>simp[iY,KC] at h
def ux(P:Program)(B:Nat->Prop)(w0:World)(body:FuncId->List Value->Bool->FrameMode->aw->Option (Ending×FrameMode×aw)):Prop:=
 ∀f args bE H e gL H',body f args true bE H=some (e,gL,H')->∀μ w cq,cd P B w0 μ H w->ca μ args cq->
  (callFunc f cq.toArray).run P w=.ok (.enter f cq.toArray) w/\
  ∀(c:Frame) (cs:List Frame),o8 μ bE c.mode->∃bw bn b3 iF fr,cd P B w0 bw H' bn/\Step μ bw H H'/\Ep bw e b3/\o8 bw gL iF/\
   Steps P (lone (Frame.enter P f cq.toArray .deferred) (c::cs) w) (lone fr ({c with mode:=iF}::cs) bn)/\fr.kind=.deferred/\fr.going P bn b3
theorem afz{E:fN}(Au:ux P B w0 E.body){fn:Func}{T:a4 Value}{n:Nat}:∀(fQ:List Deferred) (u:FrameMode) (H:aw) (e:Ending) (H':aw),iY P E fn T fQ u H=some (e,H')->
 ∀(μ:b5) (w:World) (fr:Frame) (cs:List Frame),cd P B w0 μ H w->kq μ T n fr.tmps->s8 μ fQ fr.defers->o8 μ u fr.mode->u≠.run->P.funcs[fr.fn]?=some fn->
 ∃bw bn b3 ns,cd P B w0 bw H' bn/\Step μ bw H H'/\Ep bw e b3/\Steps P (lone fr cs w) (lone ns cs bn)/\ns.kind=fr.kind/\ns.fn=fr.fn/\ns.going P bn b3:=by
 intro fQ;induction fQ with
 |nil=>
  intro u H e H' he μ w fr cs h aS aq hm hu aM;cases lv:fr.defers with
  |cons d l=>rw[lv] at aq;cases aq
  |nil=>
   cases u with
   |run=>exact absurd rfl hu
   |returning=>
    have Gf:fr.mode=.returning:=by cases bS:fr.mode<;>rw[bS] at hm<;>first|rfl|exact hm.elim
    simp only[iY] at he;cases av:qi P T H fn.results.toList with
    |none=>rw[av] at he;cases he
    |some vs=>
     rw[av] at he;simp only[cD,dK] at he;obtain⟨rfl,rfl⟩:=he;obtain⟨v',a,b⟩:=anr h aS av;exact⟨μ,w,.returned v',fr,h,Step.refl _ _,b,.refl P _,rfl,rfl,Gf,lv,fn,aM,a⟩
   |panicking c=>
    cases bS:fr.mode with
    |run=>rw[bS] at hm;exact hm.elim
    |returning=>rw[bS] at hm;exact hm.elim
    |panicking c'=>
     rw[bS] at hm;simp only[iY,cD,dK] at he;obtain⟨rfl,rfl⟩:=he;exact⟨μ,w,.panicked c',fr,h,Step.refl _ _,hm,.refl P _,rfl,rfl,bS,lv,fn,aM⟩
 |cons d fQ aZ=>
  intro u H e H' he μ w fr cs h aS aq hm hu aM;have gZ:fr.mode≠.run:=fun q=>by rw[q] at hm;cases u<;>first|exact hu rfl|exact hm.elim
  cases lv:fr.defers with
  |nil=>rw[lv] at aq;cases aq
  |cons ln fb=>
   rw[lv] at aq;cases aq with
   |cons _ _ _ _ ahT wU=>
   simp only[iY] at he;have AG:KC u=false:=by cases u<;>first|exact absurd rfl hu|rfl
   rw[AG,dB] at he;rcases ahT with⟨k0,cap,ej,t1,t2,t3,t4,t5⟩|⟨r,L,t1,t2,t3⟩
   ·rw[t1] at he;simp only at he;cases CX:kY P H k0 d.args.toList cap.toList with
    |none=>rw[CX] at he;cases he
    |some p=>
     obtain⟨f,args⟩:=p;rw[CX] at he;simp only at he;obtain⟨iX,bO,bA⟩:=NH (w:=w) t5 t4 CX;cases ak:E.body f args true u H with
     |none=>rw[ak] at he;cases he
     |some q=>
      obtain⟨aC,gL,H1⟩:=q;rw[ak] at he;obtain⟨bQ,bL⟩:=Au f args u H aC gL H1 ak μ w iX h bA;have hinv:(invoke ln.target ln.args).run P w=.ok (.enter f iX.toArray) w:=by
       rw[t2];have aC:ej.toList.toArray=ej:=by simp
       have aW:ln.args.toList.toArray=ln.args:=by simp
       rw[aC,aW] at bO;rw[bO];exact bQ
      have ad:=step_defer (cs:=cs) gZ lv t2 hinv;obtain⟨fm,bm,wz,iF,arN,bH,bM,db,dZ,gV,e7,hE⟩:=bL {fr with defers:=fb} cs hm;have ast:gL≠.run->iF≠.run:=fun q dG=>by rw[dG] at dZ;cases gL<;>first|exact q rfl|exact dZ.elim
      cases aC with
      |outgrown=>cases he
      |returned v=>
       cases wz with
       |returned v'=>
        simp only at he;by_cases WB:gL=.run
        ·exfalso;rw[WB] at he
         --a running frame arC not leave
         have:settle FrameMode.run=.run:=rfl;rw[this] at he;exact(afy (P:=P) (E:=E) he).elim
        have af:=step_going_returned (P:=P) (c:={{fr with defers:=fb} with mode:=iF}) (cs:=cs) e7 hE;obtain⟨jO,bW,aW,Ag,ck,ch,c6,gg,gh,hg,gW⟩:=aZ (settle gL) H1 e H' he fm bm {{{fr with defers:=fb} with mode:=iF} with mode:=settle iF} cs bH (aS.mono bM.ext) (wU.mono bM.ext) (anR dZ) (anQ WB) aM;exact⟨jO,bW,aW,Ag,ck,bM.trans ch,c6,(Steps.head ad (Steps.trans gV (.one af))).trans gg,gh,hg,gW⟩
       |panicked c=>exact db.elim
       |outgrown=>exact db.elim
      |panicked ct=>
       cases wz with
       |returned v'=>exact db.elim
       |outgrown=>exact db.elim
       |panicked z3=>
        simp only at he;have af:=step_going_panicked (P:=P) (c:={{fr with defers:=fb} with mode:=iF}) (cs:=cs) hE;obtain⟨jO,bW,aW,Ag,ck,ch,c6,gg,gh,hg,gW⟩:=aZ (raised gL ct) H1 e H' he fm bm {{{fr with defers:=fb} with mode:=iF} with mode:=raised iF z3} cs bH (aS.mono bM.ext) (wU.mono bM.ext) (am8 dZ db) am7 aM;exact⟨jO,bW,aW,Ag,ck,bM.trans ch,c6,(Steps.head ad (Steps.trans gV (.one af))).trans gg,gh,hg,gW⟩
   ·rw[t1] at he;simp only at he;cases w3:H.mem.get r with
    |none=>rw[w3] at he;cases he
    |some b=>
     rw[w3] at he;cases b with
     |hR o=>
      cases o with
      |none=>cases he
      |some l=>
       cases l with
       |cons x y=>cases he
       |nil=>
        simp only at he;cases aF:Nat.ble H.bU r with
        |false=>rw[aF] at he;cases he
        |true=>
         rw[aF,cv] at he;have aF:=hZ aF;cases Gw:H.upd r (.hR none) with
         |none=>rw[Gw] at he;cases he
         |some H1=>
          rw[Gw] at he;obtain⟨g8,alC,aX,aU,b0⟩:=h.gf r L t2;rw[w3] at aX;injection aX with aX;subst aX
          cases alC with
          |deferred z9=>
           obtain⟨rfl,_⟩:=b0;obtain⟨bH,bM⟩:=h.aaO t2 aF w3 (fun _ _ _ _ _ _ q=>by cases q) (fun q=>by cases q) Gw (fun _ _ _ _ _ _ q=>by cases q) (o':=.deferred none) (b':=.hR none) ⟨rfl,.inr rfl⟩;have Wz:(Instr.takeDeferred L.r).run P w=.ok [] {w with heap:=w.heap.setIfInBounds L.r (.deferred none)}:=by
            simp[Instr.takeDeferred,getObj,setObj,Sem.run,aU]
           have ad:step P (lone fr cs w)=.next (lone {fr with defers:=fb} cs {w with heap:=w.heap.setIfInBounds L.r (.deferred none)}):=by
            refine step_lone_go ?_;obtain⟨Cs,arA⟩:=ln;simp only at t3;subst t3;cases Gf:fr.mode with
            |run=>exact absurd Gf gZ
            |returning=>simp[stepG,unwind,Gf,lv,Wz]
            |panicking ct=>simp[stepG,unwind,Gf,lv,Wz]
           obtain⟨jO,bW,aW,Ag,ck,ch,c6,gg,gh,hg,gW⟩:=aZ u H1 e H' he μ _ {fr with defers:=fb} cs bH aS wU hm hu aM;exact⟨jO,bW,aW,Ag,ck,bM.trans ch,c6,.head ad gg,gh,hg,gW⟩
          |_=>exact b0.elim
     |_=>cases he
end
end
end Go.Cre

/- A part of the proof of ResumeBytes. -/
import Derived.Test.YtkmfhjilfjecmaaGreatDoorCam
set_option linter.unusedVariables false
set_option linter.unusedSimpArgs false
namespace Go.Cre
noncomputable section
open Go.RowKit
open Classical
section
variable {P:Program}{B:Nat->Prop}{w0 w:World}{μ j6:bY}{H H0 H' H1:aA}{S jH aS bn:bh}{fr:Frame}{tmps:Array Value}{ds:List Deferred}{cs jo:List Frame}{call:eH}{aR:gR}
variable {ops:Array Oper}{bK cj C K G:Nat}{D:Nat->Bool}{A:Nat->Nat}{i:Nat}{o:Oper}{k:List Item}{rest:List Nat}
def l1(listed:Array Bool):Nat->Bool:=fun i=>listed.getD i false
theorem So{listed:Array Bool}{i:Nat}(ao:i<listed.size):l1 (listed.setIfInBounds i true)=nw (l1 listed) i:=by
 funext j
 unfold l1 nw;by_cases h:j=i
 ·subst h;simp[ao]
 ·rw[an h];simp[aaO (Ne.symm h)]
theorem anw{listed:Array Bool}(eV:listed.size=ops.size){i:Nat}(ao:i∈Region.ready .any ops listed):∃o,ops[i]?=some o/\i<ops.size/\l1 listed i=false/\∀j,(Oper.fM o).testBit j=true->l1 listed j=true:=by
 unfold Region.ready at ao;simp only[List.mem_filter,SJ,fS,qU] at ao;obtain⟨aa,ae,aF⟩:=ao;have cV:i<listed.size:=by omega
 refine⟨ops[i],by simp[aa],aa,by unfold l1;simp[cV] at ae ⊢;exact ae,fun j a'=>?_⟩;unfold Oper.fM at a';obtain⟨e,he,ap,rfl⟩:=UF.1 a';simp only[CT aa,FN,SU,aaL] at aF;have:=aF e (by simpa using he);rw[ap] at this;simpa[l1] using this
theorem anx(hs:wQ ops.toList bK){listed:Array Bool}(eV:listed.size=ops.size):∀m,m<ops.size->l1 listed m=false->Region.ready .any ops listed≠[]:=by
 intro m;induction m using Nat.strongRecOn with
 |ind m aI=>
  intro hm aV;by_cases bx:∀j,(Oper.fM ops[m]).testBit j=true->l1 listed j=true
  ·intro PL;have:m∈Region.ready .any ops listed:=by
    unfold Region.ready;simp only[List.mem_filter,SJ,fS,qU];refine⟨hm,?_,?_⟩
    ·have cV:m<listed.size:=by omega
     unfold l1 at aV;simp[cV] at aV ⊢;exact aV
    ·simp only[CT hm,FN,SU,aaL];intro e he;cases ap:Region.binds .any e with
     |false=>rfl
     |true=>
      have:=bx e.on (UF.2 ⟨e,by simpa using he,ap,rfl⟩);simpa[l1] using this
   rw[PL] at this;cases this
  ·simp only[Classical.not_forall] at bx;obtain⟨j,a',ahQ⟩:=bx;have cV:=hs.down m ops[m] j (by simp[hm]) a'
   exact aI j cV (by omega) (by cases h:l1 listed j with
    |false=>rfl
    |true=>exact absurd h ahQ)
theorem adm{listed:Array Bool}(h:listed.toList.count false=0):∀i,i<listed.size->l1 listed i=true:=fun i ao=>by
 have bw:=List.count_eq_zero.1 h;unfold l1;cases ap:listed.getD i false with
 |true=>rfl
 |false=>
  exfalso;refine bw ?_;have:listed[i]=false:=by simpa[ao] using ap
  rw[<-this];simp
theorem count_set{listed:Array Bool}{i n:Nat}(ao:i<listed.size)(aD:l1 listed i=false)(aC:listed.toList.count false=n+1):(listed.setIfInBounds i true).toList.count false=n:=by
 have ap:listed[i]=false:=by unfold l1 at aD;simpa[ao] using aD
 have:(listed.setIfInBounds i true).toList=listed.toList.set i true:=by simp
 rw[this,List.count_set (by simpa using ao)];simp[ap,aC]
theorem afz(bx:∀i,C.testBit i=true->D i=true)(t:Nat):free ops.toList C D t=true:=A4.2 fun⟨j,_,a,b,_,_⟩=>by
 rw[bx j a] at b;cases b
theorem aeo(hD:qV P B w0 call)(pI:yI P B w0 aR)(hs:wQ ops.toList bK)(Bm:∀(i:Nat) o,ops.toList[i]?=some o->cj.testBit i=false->zz o.op=false){dA:dJ}:
 ∀(fuel uN:Nat) (listed:Array Bool) (bc:List jF) (C K G:Nat) (S:bh) (H:aA) (A:Nat->Nat) (μ:bY) (w:World) (tmps:Array Value) (ds:List Deferred) (cs:List Frame),
 Inv P B w0 call aR ops.toList bK cj j6 H0 jH fr jo C K G S H μ w tmps ds cs (l1 listed) A->ox ops.toList bK cj C K G bc=true->dL P call aR ops.toList bc S H=some dA->
 (bc=[]\/∃i rest,bc=.bR i::rest)->listed.size=ops.size->listed.toList.count false=fuel->
 k5 P B w0 j6 H0 jH fr jo (lone (ck fr tmps ds (.inRegion ops (Region.linearise.go .any ops fuel uN listed [])::k)) cs w) k dA:=by
 intro fuel;induction fuel with
 |zero=>
  intro uN listed bc C K G S H A μ w tmps ds cs aJ au he dE eV KT;have bx:=adm KT;have lJ:∀i,i<ops.size->C.testBit i=true:=fun i ao=>aJ.sub i (bx i (by omega));rcases dE with rfl|⟨i,rest,rfl⟩
  ·have he:some (dJ.ok S H)=some dA:=he;injection he with he;subst he
   refine⟨μ,w,tmps,ds,cs,aJ.h,aJ.gD,?_,aJ.Dv,aJ.b5,aJ.cK,.one RH⟩;refine aJ.f.conv rfl rfl rfl rfl rfl fun t v q=>zL.2 ⟨afz (fun i ao=>?_) t,q⟩;obtain⟨o,ar⟩:=aJ.Gc i ao;have:i<ops.toList.length:=(dY.1 ar).1;exact bx i (by simp at this;omega)
  ·exfalso;simp only[ox,fS] at au;have aD:=au.1.1.1.1.1;unfold fits at aD;rw[kE] at aD;cases ar:ops.toList[i]? with
   |none=>rw[ar] at aD;simp at aD
   |some o=>
    have:i<ops.toList.length:=(dY.1 ar).1;have:=lJ i (by simpa using this);simp[this] at aD
 |succ fuel aI=>
  intro uN listed bc C K G S H A μ w tmps ds cs aJ au he dE eV KT;have ca:Region.ready .any ops listed≠[]:=by
   have:0<listed.toList.count false:=by omega
   rw[List.count_pos_iff] at this;obtain⟨m,hm,e⟩:=List.mem_iff_getElem.1 this;have PB:m<listed.size:=by simpa using hm
   refine anx hs eV m (by omega) ?_;unfold l1;simp at e;simp[PB,e]
  simp only[Region.linearise.go]
  change k5 P B w0 j6 H0 jH fr jo (lone (ck fr tmps ds (.inRegion ops (match(Region.ready .any ops listed)[uN % (Region.ready .any ops listed).length]? with
   |some i=>Region.linearise.go .any ops fuel (uN / (Region.ready .any ops listed).length) (listed.setIfInBounds i true) [i]
   |none=>[].reverse)::k)) cs w) k dA
  cases ao:(Region.ready .any ops listed)[uN % (Region.ready .any ops listed).length]? with
  |none=>
   exfalso;have PX:0<(Region.ready .any ops listed).length:=FK.2 ca;have cV:=Nat.mod_lt uN PX;rw[dj cV] at ao;cases ao
  |some i=>
   simp only
   rw[linearise_go_acc,List.reverse_singleton,List.singleton_append];obtain⟨o,ar,cV,DX,sT⟩:=anw eV (cb ao);have rI:ops.toList[i]?=some o:=by simpa using ar
   have K2:i<listed.size:=by omega
   have WJ:(listed.setIfInBounds i true).size=ops.size:=by simpa using eV
   have OW:∀j,C.testBit j=true->K.testBit j=true\/G.testBit j=true:=fun j a'=>by
    have kz:sub C (Nat.lor K G)=true:=by
     rcases dE with rfl|⟨Ig,rest,rfl⟩
     ·simp only[ox,fS] at au;exact au.2
     ·simp only[ox,fS] at au;exact au.1.1.2
    have:=RL kz a';rw[z',yw] at this;exact this
   cases lJ:C.testBit i with
   |true=>
    obtain⟨bD,br,gO,e8,cS,dw,G8⟩:=anA (k:=k) (rest:=Region.linearise.go .any ops fuel (uN / (Region.ready .any ops listed).length) (listed.setIfInBounds i true) []) hD pI hs aJ OW lJ DX ar sT;rw[<-So K2] at G8;exact(aI _ _ bc C K G S H A bD br gO e8 cS G8 au he dE WJ (count_set K2 DX KT)).steps dw
   |false=>
    rcases dE with rfl|⟨Ig,rest,rfl⟩
    ·exfalso;simp only[ox,fS] at au;have:=akw au.1 i (by simpa using cV);rw[lJ] at this;cases this
    ·have rK:=au;simp only[ox,fS] at au;obtain⟨⟨⟨⟨⟨dH,hP⟩,ij⟩,ki⟩,lr⟩,nS⟩:=au;have pF:i=Ig:=by
      have:=alU ij i o rI;rw[lC] at this;rcases this with q|q|q
      ·rw[lJ] at q;cases q
      ·exact q
      ·exfalso;have ajS:sub (Oper.fM o) C=true:=by
        unfold sub;have:Nat.land (Oper.fM o) C=Oper.fM o:=by
         apply Nat.eq_of_testBit_eq
         intro j;rw[Mp];cases a':(Oper.fM o).testBit j with
         |false=>rfl
         |true=>rw[aJ.sub j (sT j a')];rfl
        rw[this];simp
       rw[ajS] at q;cases q
     subst pF;rw[kE,rI] at lr;simp only[fS] at lr;have he:Option.rec (motive:=fun _=>Option dJ) none (fun o=>kr (dL P call aR ops.toList rest) (one P call aR ops.toList S H o)) (nth ops.toList i)=some dA:=he;rw[kE,rI] at he;have he:kr (dL P call aR ops.toList rest) (one P call aR ops.toList S H o)=some dA:=he;cases o5:one P call aR ops.toList S H o with
     |none=>rw[o5] at he;cases he
     |some cO=>
      rw[o5] at he;cases cO with
      |iO c bn H1=>cases he
      |ok bn H1=>
       have he:dL P call aR ops.toList rest bn H1=some dA:=he;obtain⟨bD,br,gO,e8,cS,dw,G8⟩:=anz (k:=k) (rest:=Region.linearise.go .any ops fuel (uN / (Region.ready .any ops listed).length) (listed.setIfInBounds i true) []) hD pI hs aJ lJ ar sT o5 rfl (fun j a'=>RL lr.1 a') lr.2;rw[<-So K2] at G8;obtain⟨r0,lZ,oE,aS,H',p5,bb,a7,b8,fl⟩:=T8 hs Bm rest _ _ bn H1 A G8 nS he;exact(aI _ _ r0 lZ _ oE aS H' p5 bD br gO e8 cS bb a7 b8 fl WJ (count_set K2 DX KT)).steps dw
theorem aeQ(o3:P.follows .mixedOrders=true)(hD:qV P B w0 call)(pI:yI P B w0 aR)(h:b9 P B w0 μ H w)(aD:iS μ S fr tmps ds cs){dA:dJ}{id:Nat}(he:xi P call aR ops.toList S H=some dA):
 k5 P B w0 μ H S fr cs (lone (ck fr tmps ds (.code (.region id ops true)::k)) cs w) k dA:=by
 unfold xi at he;cases aV:DE ops.toList with
 |false=>rw[aV] at he;cases he
 |true=>
  rw[aV,b7] at he;unfold DE at aV;simp only[fS] at aV;obtain⟨vM,xE⟩:=aV;have hs:=aoj vM;have Bm:∀(i:Nat) o,ops.toList[i]?=some o->(yM ops.toList 0).testBit i=false->zz o.op=false:=fun i o ar ap=>by
   cases a1:zz o.op with
   |false=>rfl
   |true=>
    have:=abw (k:=0) ar a1;rw[lC,ap] at this;cases this
  refine k5.steps (.one aop) ?_;simp only[Region.schedule,o3,Bool.true_or,EB];have bE:∀i,Nat.testBit 0 i=false:=fun i=>Nat.zero_testBit i;have DW:∀i,l1 (Array.replicate ops.size false) i=false:=fun i=>by
   unfold l1;by_cases ao:i<ops.size
   ·simp[ao]
   ·simp[ao]
  have aJ:Inv P B w0 call aR ops.toList (Dq ops.toList ops.toList 0) (yM ops.toList 0) μ H S fr cs 0 0 0 S H μ {w with drawn:=w.drawn+1} tmps ds cs (l1 (Array.replicate ops.size false)) (fun _=>0):=by
   refine⟨h.drawn _,?_,Step.refl _ _,kZ.refl _ _ aD.Bn,rfl,rfl,fun i ao=>?_,fun i ao=>?_,fun i o j ao=>?_,fun i o j ao=>?_,fun i ao=>?_,fun i o ao=>?_,fun i j jx et ao=>?_⟩
   ·exact aD.conv rfl rfl rfl rfl rfl fun t v q=>(zL.1 q).2
   ·rw[DW] at ao;cases ao
   ·rw[bE] at ao;cases ao
   ·rw[DW] at ao;cases ao
   ·rw[bE] at ao;cases ao
   ·rw[bE] at ao;cases ao
   ·rw[bE] at ao;cases ao
   ·rw[bE] at ao;cases ao
  obtain⟨r0,lZ,oE,aS,H',p5,bb,a7,b8,fl⟩:=T8 hs Bm (IV ops.toList) _ _ S H _ aJ xE he;unfold Region.linearise;exact aeo hD pI hs Bm ops.size _ _ r0 lZ _ oE aS H' p5 μ _ tmps ds cs bb a7 b8 fl (by simp) (by simp)
end
end
end Go.Cre
namespace Go.Cre
noncomputable section
open Go.RowKit
open Classical
section
variable {P:Program}{B:Nat->Prop}{w0 w:World}{μ j6:bY}{H H0 H' H1:aA}{S jH aS bn:bh}{fr:Frame}{tmps:Array Value}{ds:List Deferred}{cs jo:List Frame}{call:eH}{aR:gR}
variable {ops:Array Oper}{l:List Oper}{bK cj C K G:Nat}{D:Nat->Bool}{A:Nat->Nat}{i:Nat}{o:Oper}{k:List Item}{rest:List Nat}
end
end
end Go.Cre
namespace Go.Cre
noncomputable section
open Go.RowKit
open Classical
section
variable {P:Program}{call:eH}{aR:gR}
end
end
end Go.Cre
namespace Go.Cre
noncomputable section
open Go.RowKit
open Classical
def aaR(P:Program)(B:Nat->Prop)(w0:World)(call:eH):Prop:=∀(h4:Nat->Prop) (iI:World),(∀k,B k->h4 k)->Kept B w0 iI->qV P h4 iI call
def abe(P:Program)(B:Nat->Prop)(w0:World)(aR:gR):Prop:=∀(h4:Nat->Prop) (iI:World),(∀k,B k->h4 k)->Kept B w0 iI->yI P h4 iI aR
section
variable {P:Program}{B h4:Nat->Prop}{w0 w br:World}{μ bD j6:bY}{H H0 H' H1:aA}{S jH aS bn:bh}{fr:Frame}{tmps:Array Value}{ds:List Deferred}{cs jo:List Frame}{call:eH}{aR:gR}
variable {ops:Array Oper}{l:List Oper}{bK cj C K G:Nat}{D:Nat->Bool}{A:Nat->Nat}{i:Nat}{o:Oper}{k:List Item}{rest:List Nat}{ws a m:Nat}{es:List (Nat×Value×Value)}
end
end
end Go.Cre
namespace Go.Cre
noncomputable section
open Go.RowKit
open Classical
section
variable {P:Program}{ops:Array Oper}{L:Lit}{l:List Oper}{bK cj:Nat}{key el:TypeId}{akE:TypeDesc}{es:List (Nat×Value×Value)}{a:Nat}{abc:bh}{i:Nat}{o:Oper}
end
section
variable {P:Program}{B:Nat->Prop}{w0 avt:World}{j6:bY}{H0 cv aqI:aA}{jH abc gx:bh}{fr:Frame}{jo:List Frame}{call:eH}{aR:gR}
variable {ops:Array Oper}{L:Lit}{l:List Oper}{bK cj:Nat}{key el:TypeId}{akE:TypeDesc}{es:List (Nat×Value×Value)}{a a2:Nat}{k:List Item}
end
end
end Go.Cre
namespace Go.Cre
noncomputable section
open Go.RowKit
structure Reached (P:Program) (B:Nat->Prop) (w0:World) (μ:bY) (H:aA) (S:bh) (fr:Frame) (cs:List Frame) (aS:bh) (H':aA) (bD:bY) (br:World) (gO:Array Value) (e8:List Deferred) (cS:List Frame):Prop where
 h:b9 P B w0 bD H' br
 gD:Step μ bD H H'
 f:iS bD aS fr gO e8 cS
 c:kZ S.b5 cs cS
 b5:aS.b5=S.b5
 cK:aS.cK=S.cK
def mP(P:Program)(B:Nat->Prop)(w0:World)(μ:bY)(H:aA)(S:bh)(fr:Frame)(cs:List Frame)(m:Machine)(k:List Item)(aS:bh)(H':aA):Exit->Prop
 |.normal=>∃bD br gO e8 cS,Reached P B w0 μ H S fr cs aS H' bD br gO e8 cS/\Steps P m (lone (ck fr gO e8 k) cS br)
 |.exit id=>∃bD br gO e8 cS ft,Reached P B w0 μ H S fr cs aS H' bD br gO e8 cS/\exitTo id ft=exitTo id k/\Steps P m (lone (ck fr gO e8 (.code (.exit id)::ft)) cS br)
 |.ret=>∃bD br gO e8 cS ft,Reached P B w0 μ H S fr cs aS H' bD br gO e8 cS/\Steps P m (lone (ck fr gO e8 (.code .ret::ft)) cS br)
 |.panic chain=>∃bD br gO e8 cS Gq ft,Reached P B w0 μ H S fr cs aS H' bD br gO e8 cS/\iJ bD chain Gq/\Steps P m (lone {ck fr gO e8 ft with mode:=.panicking Gq} cS br)
 |_=>False
def yG(c:Code)(it:Item):Prop:=it=.code c\/∃cd,c=.loop cd/\it=.inLoop cd
def sa(P:Program)(B:Nat->Prop)(w0:World)(code:Code->bh->aA->Option (Exit×bh×aA)):Prop:=
 ∀c S H e aS H',code c S H=some (e,aS,H')->∀μ w fr tmps ds cs k it,b9 P B w0 μ H w->iS μ S fr tmps ds cs->yG c it->mP P B w0 μ H S fr cs (lone (ck fr tmps ds (it::k)) cs w) k aS H' e
section
variable {P:Program}{B:Nat->Prop}{w0 w:World}{μ f':bY}{H H1 H':aA}{S bn aS:bh}{fr:Frame}{tmps:Array Value}{ds:List Deferred}{cs gl:List Frame}{m m':Machine}{k bl:List Item}{e:Exit}
theorem Reached.trans{r':bY}{gx:bh}{cv:aA}{eK hi:World}{t1 t2:Array Value}{d1 d2:List Deferred}{Kl:List Frame}(h:Reached P B w0 μ H S fr cs bn H1 f' eK t1 d1 gl)(q:Reached P B w0 f' H1 bn fr gl gx cv r' hi t2 d2 Kl):
 Reached P B w0 μ H S fr cs gx cv r' hi t2 d2 Kl:=
 ⟨q.h,h.gD.trans q.gD,q.f,h.c.trans (h.b5▸q.c),q.b5.trans h.b5,q.cK.trans h.cK⟩
theorem Reached.refl(h:b9 P B w0 μ H w)(aD:iS μ S fr tmps ds cs):Reached P B w0 μ H S fr cs S H μ w tmps ds cs:=
 ⟨h,Step.refl _ _,aD,kZ.refl _ _ aD.Bn,rfl,rfl⟩
theorem mP.steps(hs:Steps P m m')(h:mP P B w0 μ H S fr cs m' k aS H' e):mP P B w0 μ H S fr cs m k aS H' e:=by
 cases e with
 |normal=>obtain⟨bm,a2,a3,a4,a5,da,cT⟩:=h;exact⟨bm,a2,a3,a4,a5,da,hs.trans cT⟩
 |exit id=>obtain⟨bm,a2,a3,a4,a5,da,cT,hr,a9⟩:=h;exact⟨bm,a2,a3,a4,a5,da,cT,hr,hs.trans a9⟩
 |ret=>obtain⟨bm,a2,a3,a4,a5,da,cT,hr⟩:=h;exact⟨bm,a2,a3,a4,a5,da,cT,hs.trans hr⟩
 |panic bK=>obtain⟨bm,a2,a3,a4,a5,da,cT,hr,a9,si⟩:=h;exact⟨bm,a2,a3,a4,a5,da,cT,hr,a9,hs.trans si⟩
 |goto l=>exact h
 |outgrown=>exact h
theorem mP.after{eK:World}{t1:Array Value}{d1:List Deferred}(aw:Reached P B w0 μ H S fr cs bn H1 f' eK t1 d1 gl)(h:mP P B w0 f' H1 bn fr gl m k aS H' e):mP P B w0 μ H S fr cs m k aS H' e:=by
 cases e with
 |normal=>obtain⟨bm,a2,a3,a4,a5,da,cT⟩:=h;exact⟨bm,a2,a3,a4,a5,aw.trans da,cT⟩
 |exit id=>obtain⟨bm,a2,a3,a4,a5,da,cT,hr,a9⟩:=h;exact⟨bm,a2,a3,a4,a5,da,aw.trans cT,hr,a9⟩
 |ret=>obtain⟨bm,a2,a3,a4,a5,da,cT,hr⟩:=h;exact⟨bm,a2,a3,a4,a5,da,aw.trans cT,hr⟩
 |panic bK=>obtain⟨bm,a2,a3,a4,a5,da,cT,hr,a9,si⟩:=h;exact⟨bm,a2,a3,a4,a5,da,cT,aw.trans hr,a9,si⟩
 |goto l=>exact h
 |outgrown=>exact h
theorem mP.bind(h:mP P B w0 μ H S fr cs m bl bn H1 .normal)
 (aO:∀f' eK t1 d1 gl,Reached P B w0 μ H S fr cs bn H1 f' eK t1 d1 gl->mP P B w0 f' H1 bn fr gl (lone (ck fr t1 d1 bl) gl eK) k aS H' e):mP P B w0 μ H S fr cs m k aS H' e:=by
 obtain⟨f',eK,t1,d1,gl,aw,dw⟩:=h;exact((aO f' eK t1 d1 gl aw).after aw).steps dw
theorem mP.pass{x:Item}(U:∀id,e=.exit id->exitTo id (x::k)=exitTo id k)(aP:e≠.normal)(h:mP P B w0 μ H S fr cs m (x::k) aS H' e):mP P B w0 μ H S fr cs m k aS H' e:=by
 cases e with
 |normal=>exact absurd rfl aP
 |exit id=>obtain⟨bm,a2,a3,a4,a5,da,cT,hr,a9⟩:=h;exact⟨bm,a2,a3,a4,a5,da,cT,hr.trans (U id rfl),a9⟩
 |ret=>exact h
 |panic bK=>exact h
 |goto l=>exact h
 |outgrown=>exact h
theorem Rn{dA:dJ}(he:r2 (some dA)=some (e,aS,H'))(h:k5 P B w0 μ H S fr cs m k dA):mP P B w0 μ H S fr cs m k aS H' e:=by
 cases dA with
 |ok bn H1=>
  simp only[r2,cp,dB] at he;obtain⟨rfl,rfl,rfl⟩:=he;obtain⟨a,b,c,d,x,g1,g2,g3,g4,g5,g6,g7⟩:=h;exact⟨a,b,c,d,x,⟨g1,g2,g3,g4,g5,g6⟩,g7⟩
 |iO bK bn H1=>
  simp only[r2,cp,dB] at he;obtain⟨rfl,rfl,rfl⟩:=he;obtain⟨a,b,c,d,x,y,z,g1,g2,g3,g4,g5,g6,g7,g8⟩:=h;exact⟨a,b,c,d,x,y,z,⟨g1,g2,g3,g4,g5,g6⟩,g7,g8⟩
theorem Zi{E:gZ}{b:Code}{r:Option (Exit×bh×aA)}{x:Item}(aC:sa P B w0 E.code)(dw:yG b x)(U:∀id,exitTo id (x::k)=exitTo id k)
 (aw:∀aL bn H1,r=some (aL,bn,H1)->mP P B w0 μ H S fr cs m (x::k) bn H1 aL)(he:Gp E b r=some (e,aS,H')):mP P B w0 μ H S fr cs m k aS H' e:=by
 cases r with
 |none=>cases he
 |some p=>
  obtain⟨aL,bn,H1⟩:=p;have aa:=aw aL bn H1 rfl;by_cases aP:aL=.normal
  ·subst aP;have he:E.code b bn H1=some (e,aS,H'):=he;exact aa.bind fun f' eK t1 d1 gl lQ=>aC b bn H1 e aS H' he f' eK fr t1 d1 gl k x lQ.h lQ.f dw
  ·have he:some (aL,bn,H1)=some (e,aS,H'):=by
    cases aL<;>first|exact absurd rfl aP|exact he
   simp only[cp,dB] at he;obtain⟨rfl,rfl,rfl⟩:=he;exact aa.pass (fun id _=>U id) aP
theorem UO{E:gZ}(o3:P.follows .mixedOrders=true)(aC:sa P B w0 E.code)(ahI:aaR P B w0 E.call)(aka:abe P B w0 E.aR):sa P B w0 (Kp P E):=by
 have hD:=ahI B w0 (fun _ h=>h) (Kept.refl _ _);have pI:=aka B w0 (fun _ h=>h) (Kept.refl _ _);intro c S H e aS H' he μ w fr tmps ds cs k it h aD dw;have sS:(∀cd,c≠.loop cd)->it=.code c:=fun cr=>by
  rcases dw with q|⟨cd,q,_⟩
  ·exact q
  ·exact absurd q (cr cd)
 unfold Kp at he;cases c with
 |skip=>
  obtain rfl:=sS (fun _ q=>by cases q);have he:some (Exit.normal,S,H)=some (e,aS,H'):=he;simp only[cp,dB] at he;obtain⟨rfl,rfl,rfl⟩:=he;exact⟨μ,w,tmps,ds,cs,.refl h aD,.one aoA⟩
 |label l=>
  obtain rfl:=sS (fun _ q=>by cases q);have he:some (Exit.normal,S,H)=some (e,aS,H'):=he;simp only[cp,dB] at he;obtain⟨rfl,rfl,rfl⟩:=he;exact⟨μ,w,tmps,ds,cs,.refl h aD,.one aou⟩
 |exit id=>
  obtain rfl:=sS (fun _ q=>by cases q);have he:some (Exit.exit id,S,H)=some (e,aS,H'):=he;simp only[cp,dB] at he;obtain⟨rfl,rfl,rfl⟩:=he;exact⟨μ,w,tmps,ds,cs,k,.refl h aD,rfl,.refl P _⟩
 |ret=>
  obtain rfl:=sS (fun _ q=>by cases q);have he:some (Exit.ret,S,H)=some (e,aS,H'):=he;simp only[cp,dB] at he;obtain⟨rfl,rfl,rfl⟩:=he;exact⟨μ,w,tmps,ds,cs,k,.refl h aD,.refl P _⟩
 |goto l=>cases he
 |refuse avr=>cases he
 |region id ops d=>
  obtain rfl:=sS (fun _ q=>by cases q);cases d with
  |false=>
   have he:r2 (DO P E.call E.aR ops.toList ops.toList S H)=some (e,aS,H'):=he;cases aw:DO P E.call E.aR ops.toList ops.toList S H with
   |none=>rw[aw] at he;cases he
   |some dA=>
    rw[aw] at he;have:=ae0 (k:=k) (fr:=fr) hD pI ops.toList 0 μ w S H tmps ds cs dA (by simp) h aD aw;have aL:List.range' 0 ops.toList.length=List.range ops.size:=by rw[aa8];simp
    rw[aL] at this;exact(Rn he this).steps (.one ZF)
  |true=>
   have he:r2 (vw P E.call E.aR ops.toList S H)=some (e,aS,H'):=he;cases aw:vw P E.call E.aR ops.toList S H with
   |none=>rw[aw] at he;cases he
   |some dA=>
    rw[aw] at he;refine Rn he ?_;unfold vw at aw;cases av:Io ops.toList with
    |none=>rw[av] at aw;exact aeQ o3 hD pI h aD aw
    |some L=>rw[av] at aw;cases aw
 |seq a b=>
  obtain rfl:=sS (fun _ q=>by cases q);have he:Gp E b (E.code a S H)=some (e,aS,H'):=he;exact Zi aC (.inl rfl) (fun id=>rfl) (fun aL bn H1 q=>(aC a S H aL bn H1 q μ w fr tmps ds cs (.code b::k) (.code a) h aD (.inl rfl)).steps (.one RI)) he
 |cond x a b=>
  obtain rfl:=sS (fun _ q=>by cases q);have he:Kf E S H a b (bj S.T H x)=some (e,aS,H'):=he;cases U:bj S.T H x with
  |none=>rw[U] at he;cases he
  |some v=>
   rw[U] at he;have ay:=wo h aD.t U;cases v with
   |bool t=>
    have ap:=ay.Gb;cases t with
    |true=>
     have he:E.code a S H=some (e,aS,H'):=he;exact(aC a S H e aS H' he μ w fr tmps ds cs k (.code a) h aD (.inl rfl)).steps (.one (ZB ap))
    |false=>
     have he:E.code b S H=some (e,aS,H'):=he;exact(aC b S H e aS H' he μ w fr tmps ds cs k (.code b) h aD (.inl rfl)).steps (.one (ZB ap))
   |_=>cases he
 |block id c=>
  obtain rfl:=sS (fun _ q=>by cases q);have he:Nu id (E.code c S H)=some (e,aS,H'):=he;cases aw:E.code c S H with
  |none=>rw[aw] at he;cases he
  |some p=>
   obtain⟨aL,bn,H1⟩:=p;rw[aw] at he;have aa:=(aC c S H aL bn H1 aw μ w fr tmps ds cs (.inBlock id::k) (.code c) h aD (.inl rfl)).steps (.one (aon (P:=P)));cases aL with
   |exit mi=>
    have he:(bif Nat.beq mi id then some (Exit.normal,bn,H1) else some (Exit.exit mi,bn,H1))=some (e,aS,H'):=he;obtain⟨bm,a2,a3,a4,a5,da,cT,hr,a9⟩:=aa;cases ap:Nat.beq mi id with
    |true=>
     rw[ap,b7] at he;simp only[cp,dB] at he;obtain⟨rfl,rfl,rfl⟩:=he;obtain rfl:=eO ap;have aL:exitTo mi (.inBlock mi::k)=some k:=by simp[exitTo]
     exact⟨bm,a2,a3,a4,a5,cT,a9.trans (.one (aor (hr.trans aL)))⟩
    |false=>
     rw[ap,dT] at he;simp only[cp,dB] at he;obtain⟨rfl,rfl,rfl⟩:=he;have ca:¬id=mi:=fun q=>by subst q;simp at ap
     have aL:exitTo mi (.inBlock id::k)=exitTo mi k:=by simp[exitTo,ca]
     exact⟨bm,a2,a3,a4,a5,da,cT,hr.trans aL,a9⟩
   |normal=>
    have he:some (Exit.normal,bn,H1)=some (e,aS,H'):=he;simp only[cp,dB] at he;obtain⟨rfl,rfl,rfl⟩:=he;obtain⟨bm,a2,a3,a4,a5,da,cT⟩:=aa;exact⟨bm,a2,a3,a4,a5,da,cT.trans (.one aos)⟩
   |goto l=>exact aa.elim
   |ret=>
    have he:some (Exit.ret,bn,H1)=some (e,aS,H'):=he;simp only[cp,dB] at he;obtain⟨rfl,rfl,rfl⟩:=he;exact aa.pass (fun id q=>by cases q) (fun q=>by cases q)
   |panic bK=>
    have he:some (Exit.panic bK,bn,H1)=some (e,aS,H'):=he;simp only[cp,dB] at he;obtain⟨rfl,rfl,rfl⟩:=he;exact aa.pass (fun id q=>by cases q) (fun q=>by cases q)
   |outgrown=>exact aa.elim
 |loop c=>
  have he:Gp E (.loop c) (E.code c S H)=some (e,aS,H'):=he;have bA:step P (lone (ck fr tmps ds (it::k)) cs w)=.next (lone (ck fr tmps ds (.code c::.inLoop c::k)) cs w):=by
   rcases dw with rfl|⟨cd,q,rfl⟩
   ·exact ZE
   ·injection q with q;subst q;exact ZD
  exact Zi aC (.inr ⟨c,rfl,rfl⟩) (fun id=>rfl) (fun aL bn H1 q=>(aC c S H aL bn H1 q μ w fr tmps ds cs (.inLoop c::k) (.code c) h aD (.inl rfl)).steps (.one bA)) he
 |scope c=>
  obtain rfl:=sS (fun _ q=>by cases q);have he:T3 (E.code c S H)=some (e,aS,H'):=he;cases aw:E.code c S H with
  |none=>rw[aw] at he;cases he
  |some p=>
   obtain⟨aL,bn,H1⟩:=p;rw[aw] at he;have aa:=(aC c S H aL bn H1 aw μ w fr tmps ds cs (.inScope c::k) (.code c) h aD (.inl rfl)).steps (.one (aoz (P:=P)));have he:some (aL,bn,H1)=some (e,aS,H'):=by cases aL<;>first|exact he|exact aa.elim
   simp only[cp,dB] at he;obtain⟨rfl,rfl,rfl⟩:=he;by_cases aP:aL=.normal
   ·subst aP;obtain⟨bm,a2,a3,a4,a5,da,cT⟩:=aa;exact⟨bm,a2,a3,a4,a5,da,cT.trans (.one aot)⟩
   ·exact aa.pass (fun id _=>rfl) aP
 |rangeFunc f params assign body=>
  obtain rfl:=sS (fun _ q=>by cases q);have he:(none:Option (Exit×bh×aA))=some (e,aS,H'):=he;cases he
end
end
end Go.Cre

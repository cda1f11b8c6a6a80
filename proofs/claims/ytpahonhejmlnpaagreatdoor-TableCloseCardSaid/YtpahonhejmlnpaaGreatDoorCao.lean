/- A part of the proof of TableClose. -/
import Derived.Test.YtpahonhejmlnpaaGreatDoorCan
set_option linter.unusedVariables false
set_option linter.unusedSimpArgs false
namespace Go.Cre
noncomputable section
open Go.RowKit
open Classical
section
variable {P:Program}{B:Nat->Prop}{w0 w:World}{μ iz:bz}{H H0 H' H1:ai}{S hW aB a1:aT}{fr:Frame}{tmps:Array Value}{ds:List Deferred}{cs iM:List Frame}{call:ed}{aE:fX}
variable {ops:Array Oper}{cf dv C K G:Nat}{D:Nat->Bool}{A:Nat->Nat}{i:Nat}{o:Oper}{k:List Item}{rest:List Nat}
def j0(listed:Array Bool):Nat->Bool:=fun i=>listed.getD i false
theorem KJ{listed:Array Bool}{i:Nat}(ar:i<listed.size):j0 (listed.setIfInBounds i true)=k6 (j0 listed) i:=by
 funext j
 unfold j0 k6;by_cases h:j=i
 ·subst h;simp[ar]
 ·rw[a3 h];simp[KE (Ne.symm h)]
theorem acD{listed:Array Bool}(dA:listed.size=ops.size){i:Nat}(ar:i∈Region.ready .any ops listed):∃o,ops[i]?=some o/\i<ops.size/\j0 listed i=false/\∀j,(Oper.hi o).testBit j=true->j0 listed j=true:=by
 unfold Region.ready at ar;simp only[List.mem_filter,La,fp,pD] at ar;obtain⟨aa,ab,aY⟩:=ar;have cD:i<listed.size:=by omega
 refine⟨ops[i],by simp[aa],aa,by unfold j0;simp[cD] at ab ⊢;exact ab,fun j a5=>?_⟩;unfold Oper.hi at a5;obtain⟨e,he,ah,rfl⟩:=MH.1 a5;simp only[wV aa,Cr,Lt,R9] at aY;have:=aY e (by simpa using he);rw[ah] at this;simpa[j0] using this
theorem acE(af:sj ops.toList cf){listed:Array Bool}(dA:listed.size=ops.size):∀m,m<ops.size->j0 listed m=false->Region.ready .any ops listed≠[]:=by
 intro m;induction m using Nat.strongRecOn with
 |ind m aP=>
  intro hm au;by_cases lg:∀j,(Oper.hi ops[m]).testBit j=true->j0 listed j=true
  ·intro HR;have:m∈Region.ready .any ops listed:=by
    unfold Region.ready;simp only[List.mem_filter,La,fp,pD];refine⟨hm,?_,?_⟩
    ·have cD:m<listed.size:=by omega
     unfold j0 at au;simp[cD] at au ⊢;exact au
    ·simp only[wV hm,Cr,Lt,R9];intro e he;cases ah:Region.binds .any e with
     |false=>rfl
     |true=>
      have:=lg e.on (MH.2 ⟨e,by simpa using he,ah,rfl⟩);simpa[j0] using this
   rw[HR] at this;cases this
  ·simp only[Classical.not_forall] at lg;obtain⟨j,a5,XG⟩:=lg;have cD:=af.down m ops[m] j (by simp[hm]) a5
   exact aP j cD (by omega) (by cases h:j0 listed j with
    |false=>rfl
    |true=>exact absurd h XG)
theorem Uu{listed:Array Bool}(h:listed.toList.count false=0):∀i,i<listed.size->j0 listed i=true:=fun i ar=>by
 have aX:=List.count_eq_zero.1 h;unfold j0;cases ah:listed.getD i false with
 |true=>rfl
 |false=>
  exfalso;refine aX ?_;have:listed[i]=false:=by simpa[ar] using ah
  rw[<-this];simp
theorem count_set{listed:Array Bool}{i n:Nat}(ar:i<listed.size)(az:j0 listed i=false)(aL:listed.toList.count false=n+1):(listed.setIfInBounds i true).toList.count false=n:=by
 have ah:listed[i]=false:=by unfold j0 at az;simpa[ar] using az
 have:(listed.setIfInBounds i true).toList=listed.toList.set i true:=by simp
 rw[this,List.count_set (by simpa using ar)];simp[ah,aL]
theorem V4(lg:∀i,C.testBit i=true->D i=true)(t:Nat):free ops.toList C D t=true:=vA.2 fun⟨j,_,a,b,_,_⟩=>by
 rw[lg j a] at b;cases b
theorem U5(hf:nc P B w0 call)(mP:tA P B w0 aE)(af:sj ops.toList cf)(vK:∀(i:Nat) o,ops.toList[i]?=some o->dv.testBit i=false->um o.op=false){bV:c6}:
 ∀(fuel qF:Nat) (listed:Array Bool) (a2:List hT) (C K G:Nat) (S:aT) (H:ai) (A:Nat->Nat) (μ:bz) (w:World) (tmps:Array Value) (ds:List Deferred) (cs:List Frame),
 Inv P B w0 call aE ops.toList cf dv iz H0 hW fr iM C K G S H μ w tmps ds cs (j0 listed) A->lP ops.toList cf dv C K G a2=true->dy P call aE ops.toList a2 S H=some bV->
 (a2=[]\/∃i rest,a2=.bA i::rest)->listed.size=ops.size->listed.toList.count false=fuel->
 jv P B w0 iz H0 hW fr iM (lone (bt fr tmps ds (.inRegion ops (Region.linearise.go .any ops fuel qF listed [])::k)) cs w) k bV:=by
 intro fuel;induction fuel with
 |zero=>
  intro qF listed a2 C K G S H A μ w tmps ds cs av ao he ei dA Dj;have lg:=Uu Dj;have il:∀i,i<ops.size->C.testBit i=true:=fun i ar=>av.sub i (lg i (by omega));rcases ei with rfl|⟨i,rest,rfl⟩
  ·have he:some (c6.ok S H)=some bV:=he;injection he with he;subst he
   refine⟨μ,w,tmps,ds,cs,av.h,av.jk,?_,av.xf,av.bB,av.b8,.one JV⟩;refine av.f.conv rfl rfl rfl rfl rfl fun t v q=>uy.2 ⟨V4 (fun i ar=>?_) t,q⟩;obtain⟨o,ag⟩:=av.zx i ar;have:i<ops.toList.length:=(hq.1 ag).1;exact lg i (by simp at this;omega)
  ·exfalso;simp only[lP,fp] at ao;have az:=ao.1.1.1.1.1;unfold fits at az;rw[jU] at az;cases ag:ops.toList[i]? with
   |none=>rw[ag] at az;simp at az
   |some o=>
    have:i<ops.toList.length:=(hq.1 ag).1;have:=il i (by simpa using this);simp[this] at az
 |succ fuel aP=>
  intro qF listed a2 C K G S H A μ w tmps ds cs av ao he ei dA Dj;have dP:Region.ready .any ops listed≠[]:=by
   have:0<listed.toList.count false:=by omega
   rw[List.count_pos_iff] at this;obtain⟨m,hm,e⟩:=List.mem_iff_getElem.1 this;have HL:m<listed.size:=by simpa using hm
   refine acE af dA m (by omega) ?_;unfold j0;simp at e;simp[HL,e]
  simp only[Region.linearise.go]
  change jv P B w0 iz H0 hW fr iM (lone (bt fr tmps ds (.inRegion ops (match(Region.ready .any ops listed)[qF % (Region.ready .any ops listed).length]? with
   |some i=>Region.linearise.go .any ops fuel (qF / (Region.ready .any ops listed).length) (listed.setIfInBounds i true) [i]
   |none=>[].reverse)::k)) cs w) k bV
  cases ar:(Region.ready .any ops listed)[qF % (Region.ready .any ops listed).length]? with
  |none=>
   exfalso;have Ok:0<(Region.ready .any ops listed).length:=List.length_pos_iff.2 dP;have cD:=oN qF Ok;rw[eO cD] at ar;cases ar
  |some i=>
   simp only
   rw[linearise_go_acc,List.reverse_singleton,List.singleton_append];obtain⟨o,ag,cD,xE,pa⟩:=acD dA (k8 ar);have h4:ops.toList[i]?=some o:=by simpa using ag
   have Dt:i<listed.size:=by omega
   have DL:(listed.setIfInBounds i true).size=ops.size:=by simpa using dA
   have Ag:∀j,C.testBit j=true->K.testBit j=true\/G.testBit j=true:=fun j a5=>by
    have om:sub C (Nat.lor K G)=true:=by
     rcases ei with rfl|⟨OQ,rest,rfl⟩
     ·simp only[lP,fp] at ao;exact ao.2
     ·simp only[lP,fp] at ao;exact ao.1.1.2
    have:=JY om a5;rw[uK,tr] at this;exact this
   cases il:C.testBit i with
   |true=>
    obtain⟨bd,a7,fS,en,cw,dM,z8⟩:=acG (k:=k) (rest:=Region.linearise.go .any ops fuel (qF / (Region.ready .any ops listed).length) (listed.setIfInBounds i true) []) hf mP af av Ag il xE ag pa;rw[<-KJ Dt] at z8;exact(aP _ _ a2 C K G S H A bd a7 fS en cw z8 ao he ei DL (count_set Dt xE Dj)).steps dM
   |false=>
    rcases ei with rfl|⟨OQ,rest,rfl⟩
    ·exfalso;simp only[lP,fp] at ao;have:=Zx ao.1 i (by simpa using cD);rw[il] at this;cases this
    ·have ag5:=ao;simp only[lP,fp] at ao;obtain⟨⟨⟨⟨⟨dm,hA⟩,lm⟩,uD⟩,tf⟩,uE⟩:=ao;have XZ:i=OQ:=by
      have:=abg lm i o h4;rw[nh] at this;rcases this with q|q|q
      ·rw[il] at q;cases q
      ·exact q
      ·exfalso;have YR:sub (Oper.hi o) C=true:=by
        unfold sub;have:Nat.land (Oper.hi o) C=Oper.hi o:=by
         apply Nat.eq_of_testBit_eq
         intro j;rw[EO];cases a5:(Oper.hi o).testBit j with
         |false=>rfl
         |true=>rw[av.sub j (pa j a5)];rfl
        rw[this];simp
       rw[YR] at q;cases q
     subst XZ;rw[jU,h4] at tf;simp only[fp] at tf;have he:Option.rec (motive:=fun _=>Option c6) none (fun o=>j7 (dy P call aE ops.toList rest) (one P call aE ops.toList S H o)) (nth ops.toList i)=some bV:=he;rw[jU,h4] at he;have he:j7 (dy P call aE ops.toList rest) (one P call aE ops.toList S H o)=some bV:=he;cases kR:one P call aE ops.toList S H o with
     |none=>rw[kR] at he;cases he
     |some cX=>
      rw[kR] at he;cases cX with
      |h9 c a1 H1=>cases he
      |ok a1 H1=>
       have he:dy P call aE ops.toList rest a1 H1=some bV:=he;obtain⟨bd,a7,fS,en,cw,dM,z8⟩:=acF (k:=k) (rest:=Region.linearise.go .any ops fuel (qF / (Region.ready .any ops listed).length) (listed.setIfInBounds i true) []) hf mP af av il ag pa kR rfl (fun j a5=>JY tf.1 a5) tf.2;rw[<-KJ Dt] at z8;obtain⟨oB,r4,lU,aB,H',nb,aR,aN,bG,dd⟩:=Mi af vK rest _ _ a1 H1 A z8 uE he;exact(aP _ _ oB r4 _ lU aB H' nb bd a7 fS en cw aR aN bG dd DL (count_set Dt xE Dj)).steps dM
theorem Vt(l5:P.follows .mixedOrders=true)(hf:nc P B w0 call)(mP:tA P B w0 aE)(h:bL P B w0 μ H w)(az:gO μ S fr tmps ds cs){bV:c6}{id:Nat}(he:vu P call aE ops.toList S H=some bV):
 jv P B w0 μ H S fr cs (lone (bt fr tmps ds (.code (.region id ops true)::k)) cs w) k bV:=by
 unfold vu at he;cases au:zP ops.toList with
 |false=>rw[au] at he;cases he
 |true=>
  rw[au,b1] at he;unfold zP at au;simp only[fp] at au;obtain⟨XC,XD⟩:=au;have af:=ade XC;have vK:∀(i:Nat) o,ops.toList[i]?=some o->(tC ops.toList 0).testBit i=false->um o.op=false:=fun i o ag ah=>by
   cases aK:um o.op with
   |false=>rfl
   |true=>
    have:=Tj (k:=0) ag aK;rw[nh,ah] at this;cases this
  refine jv.steps (.one adn) ?_;simp only[Region.schedule,l5,Bool.true_or,DW];have a0:∀i,Nat.testBit 0 i=false:=fun i=>Nat.zero_testBit i;have o2:∀i,j0 (Array.replicate ops.size false) i=false:=fun i=>by
   unfold j0;by_cases ar:i<ops.size
   ·simp[ar]
   ·simp[ar]
  have av:Inv P B w0 call aE ops.toList (xb ops.toList ops.toList 0) (tC ops.toList 0) μ H S fr cs 0 0 0 S H μ {w with drawn:=w.drawn+1} tmps ds cs (j0 (Array.replicate ops.size false)) (fun _=>0):=by
   refine⟨h.drawn _,?_,Step.refl _ _,iA.refl _ _ az.ry,rfl,rfl,fun i ar=>?_,fun i ar=>?_,fun i o j ar=>?_,fun i o j ar=>?_,fun i ar=>?_,fun i o ar=>?_,fun i j Jh dJ ar=>?_⟩
   ·exact az.conv rfl rfl rfl rfl rfl fun t v q=>(uy.1 q).2
   ·rw[o2] at ar;cases ar
   ·rw[a0] at ar;cases ar
   ·rw[o2] at ar;cases ar
   ·rw[a0] at ar;cases ar
   ·rw[a0] at ar;cases ar
   ·rw[a0] at ar;cases ar
   ·rw[a0] at ar;cases ar
  obtain⟨oB,r4,lU,aB,H',nb,aR,aN,bG,dd⟩:=Mi af vK (Ew ops.toList) _ _ S H _ av XD he;unfold Region.linearise;exact U5 hf mP af vK ops.size _ _ oB r4 _ lU aB H' nb μ _ tmps ds cs aR aN bG dd (by simp) (by simp)
end
end
end Go.Cre
namespace Go.Cre
noncomputable section
open Go.RowKit
open Classical
section
variable {P:Program}{B:Nat->Prop}{w0 w:World}{μ iz:bz}{H H0 H' H1:ai}{S hW aB a1:aT}{fr:Frame}{tmps:Array Value}{ds:List Deferred}{cs iM:List Frame}{call:ed}{aE:fX}
variable {ops:Array Oper}{l:List Oper}{cf dv C K G:Nat}{D:Nat->Bool}{A:Nat->Nat}{i:Nat}{o:Oper}{k:List Item}{rest:List Nat}
end
end
end Go.Cre
namespace Go.Cre
noncomputable section
open Go.RowKit
open Classical
section
variable {P:Program}{call:ed}{aE:fX}
end
end
end Go.Cre
namespace Go.Cre
noncomputable section
open Go.RowKit
open Classical
def Sf(P:Program)(B:Nat->Prop)(w0:World)(call:ed):Prop:=∀(gW:Nat->Prop) (g6:World),(∀k,B k->gW k)->Kept B w0 g6->nc P gW g6 call
def S4(P:Program)(B:Nat->Prop)(w0:World)(aE:fX):Prop:=∀(gW:Nat->Prop) (g6:World),(∀k,B k->gW k)->Kept B w0 g6->tA P gW g6 aE
section
variable {P:Program}{B gW:Nat->Prop}{w0 w a7:World}{μ bd iz:bz}{H H0 H' H1:ai}{S hW aB a1:aT}{fr:Frame}{tmps:Array Value}{ds:List Deferred}{cs iM:List Frame}{call:ed}{aE:fX}
variable {ops:Array Oper}{l:List Oper}{cf dv C K G:Nat}{D:Nat->Bool}{A:Nat->Nat}{i:Nat}{o:Oper}{k:List Item}{rest:List Nat}{ws a m:Nat}{es:List (Nat×Value×Value)}
end
end
end Go.Cre
namespace Go.Cre
noncomputable section
open Go.RowKit
open Classical
section
variable {P:Program}{ops:Array Oper}{L:Lit}{l:List Oper}{cf dv:Nat}{key el:TypeId}{ZD:TypeDesc}{es:List (Nat×Value×Value)}{a:Nat}{S1:aT}{i:Nat}{o:Oper}
end
section
variable {P:Program}{B:Nat->Prop}{w0 aib:World}{iz:bz}{H0 bK afq:ai}{hW S1 fq:aT}{fr:Frame}{iM:List Frame}{call:ed}{aE:fX}
variable {ops:Array Oper}{L:Lit}{l:List Oper}{cf dv:Nat}{key el:TypeId}{ZD:TypeDesc}{es:List (Nat×Value×Value)}{a bX:Nat}{k:List Item}
end
end
end Go.Cre
namespace Go.Cre
noncomputable section
open Go.RowKit
structure Reached (P:Program) (B:Nat->Prop) (w0:World) (μ:bz) (H:ai) (S:aT) (fr:Frame) (cs:List Frame) (aB:aT) (H':ai) (bd:bz) (a7:World) (fS:Array Value) (en:List Deferred) (cw:List Frame):Prop where
 h:bL P B w0 bd H' a7
 jk:Step μ bd H H'
 f:gO bd aB fr fS en cw
 c:iA S.bB cs cw
 bB:aB.bB=S.bB
 b8:aB.b8=S.b8
def jZ(P:Program)(B:Nat->Prop)(w0:World)(μ:bz)(H:ai)(S:aT)(fr:Frame)(cs:List Frame)(m:Machine)(k:List Item)(aB:aT)(H':ai):Exit->Prop
 |.normal=>∃bd a7 fS en cw,Reached P B w0 μ H S fr cs aB H' bd a7 fS en cw/\Steps P m (lone (bt fr fS en k) cw a7)
 |.exit id=>∃bd a7 fS en cw jE,Reached P B w0 μ H S fr cs aB H' bd a7 fS en cw/\exitTo id jE=exitTo id k/\Steps P m (lone (bt fr fS en (.code (.exit id)::jE)) cw a7)
 |.ret=>∃bd a7 fS en cw jE,Reached P B w0 μ H S fr cs aB H' bd a7 fS en cw/\Steps P m (lone (bt fr fS en (.code .ret::jE)) cw a7)
 |.panic chain=>∃bd a7 fS en cw zF jE,Reached P B w0 μ H S fr cs aB H' bd a7 fS en cw/\g7 bd chain zF/\Steps P m (lone {bt fr fS en jE with mode:=.panicking zF} cw a7)
 |_=>False
def tz(c:Code)(it:Item):Prop:=it=.code c\/∃bw,c=.loop bw/\it=.inLoop bw
def oH(P:Program)(B:Nat->Prop)(w0:World)(code:Code->aT->ai->Option (Exit×aT×ai)):Prop:=
 ∀c S H e aB H',code c S H=some (e,aB,H')->∀μ w fr tmps ds cs k it,bL P B w0 μ H w->gO μ S fr tmps ds cs->tz c it->jZ P B w0 μ H S fr cs (lone (bt fr tmps ds (it::k)) cs w) k aB H' e
section
variable {P:Program}{B:Nat->Prop}{w0 w:World}{μ eE:bz}{H H1 H':ai}{S a1 aB:aT}{fr:Frame}{tmps:Array Value}{ds:List Deferred}{cs fs:List Frame}{m m':Machine}{k a9:List Item}{e:Exit}
theorem Reached.trans{hS:bz}{fq:aT}{bK:ai}{bh cb:World}{t1 t2:Array Value}{d1 d2:List Deferred}{CM:List Frame}(h:Reached P B w0 μ H S fr cs a1 H1 eE bh t1 d1 fs)(q:Reached P B w0 eE H1 a1 fr fs fq bK hS cb t2 d2 CM):
 Reached P B w0 μ H S fr cs fq bK hS cb t2 d2 CM:=
 ⟨q.h,h.jk.trans q.jk,q.f,h.c.trans (h.bB▸q.c),q.bB.trans h.bB,q.b8.trans h.b8⟩
theorem Reached.refl(h:bL P B w0 μ H w)(az:gO μ S fr tmps ds cs):Reached P B w0 μ H S fr cs S H μ w tmps ds cs:=
 ⟨h,Step.refl _ _,az,iA.refl _ _ az.ry,rfl,rfl⟩
theorem jZ.steps(af:Steps P m m')(h:jZ P B w0 μ H S fr cs m' k aB H' e):jZ P B w0 μ H S fr cs m k aB H' e:=by
 cases e with
 |normal=>obtain⟨bx,bX,cy,c0,cr,dY,fI⟩:=h;exact⟨bx,bX,cy,c0,cr,dY,af.trans fI⟩
 |exit id=>obtain⟨bx,bX,cy,c0,cr,dY,fI,jw,k9⟩:=h;exact⟨bx,bX,cy,c0,cr,dY,fI,jw,af.trans k9⟩
 |ret=>obtain⟨bx,bX,cy,c0,cr,dY,fI,jw⟩:=h;exact⟨bx,bX,cy,c0,cr,dY,fI,af.trans jw⟩
 |panic cf=>obtain⟨bx,bX,cy,c0,cr,dY,fI,jw,k9,sl⟩:=h;exact⟨bx,bX,cy,c0,cr,dY,fI,jw,k9,af.trans sl⟩
 |goto l=>exact h
 |outgrown=>exact h
theorem jZ.after{bh:World}{t1:Array Value}{d1:List Deferred}(al:Reached P B w0 μ H S fr cs a1 H1 eE bh t1 d1 fs)(h:jZ P B w0 eE H1 a1 fr fs m k aB H' e):jZ P B w0 μ H S fr cs m k aB H' e:=by
 cases e with
 |normal=>obtain⟨bx,bX,cy,c0,cr,dY,fI⟩:=h;exact⟨bx,bX,cy,c0,cr,al.trans dY,fI⟩
 |exit id=>obtain⟨bx,bX,cy,c0,cr,dY,fI,jw,k9⟩:=h;exact⟨bx,bX,cy,c0,cr,dY,al.trans fI,jw,k9⟩
 |ret=>obtain⟨bx,bX,cy,c0,cr,dY,fI,jw⟩:=h;exact⟨bx,bX,cy,c0,cr,dY,al.trans fI,jw⟩
 |panic cf=>obtain⟨bx,bX,cy,c0,cr,dY,fI,jw,k9,sl⟩:=h;exact⟨bx,bX,cy,c0,cr,dY,fI,al.trans jw,k9,sl⟩
 |goto l=>exact h
 |outgrown=>exact h
theorem jZ.bind(h:jZ P B w0 μ H S fr cs m a9 a1 H1 .normal)
 (hk:∀eE bh t1 d1 fs,Reached P B w0 μ H S fr cs a1 H1 eE bh t1 d1 fs->jZ P B w0 eE H1 a1 fr fs (lone (bt fr t1 d1 a9) fs bh) k aB H' e):jZ P B w0 μ H S fr cs m k aB H' e:=by
 obtain⟨eE,bh,t1,d1,fs,al,dM⟩:=h;exact((hk eE bh t1 d1 fs al).after al).steps dM
theorem jZ.pass{x:Item}(U:∀id,e=.exit id->exitTo id (x::k)=exitTo id k)(aw:e≠.normal)(h:jZ P B w0 μ H S fr cs m (x::k) aB H' e):jZ P B w0 μ H S fr cs m k aB H' e:=by
 cases e with
 |normal=>exact absurd rfl aw
 |exit id=>obtain⟨bx,bX,cy,c0,cr,dY,fI,jw,k9⟩:=h;exact⟨bx,bX,cy,c0,cr,dY,fI,jw.trans (U id rfl),k9⟩
 |ret=>exact h
 |panic cf=>exact h
 |goto l=>exact h
 |outgrown=>exact h
theorem JE{bV:c6}(he:qB (some bV)=some (e,aB,H'))(h:jv P B w0 μ H S fr cs m k bV):jZ P B w0 μ H S fr cs m k aB H' e:=by
 cases bV with
 |ok a1 H1=>
  simp only[qB,b9,c'] at he;obtain⟨rfl,rfl,rfl⟩:=he;obtain⟨a,b,c,d,x,cm,cn,cR,fk,e9,fY,fJ⟩:=h;exact⟨a,b,c,d,x,⟨cm,cn,cR,fk,e9,fY⟩,fJ⟩
 |h9 cf a1 H1=>
  simp only[qB,b9,c'] at he;obtain⟨rfl,rfl,rfl⟩:=he;obtain⟨a,b,c,d,x,y,z,cm,cn,cR,fk,e9,fY,fJ,nt⟩:=h;exact⟨a,b,c,d,x,y,z,⟨cm,cn,cR,fk,e9,fY⟩,fJ,nt⟩
theorem QS{E:eT}{b:Code}{r:Option (Exit×aT×ai)}{x:Item}(aL:oH P B w0 E.code)(dM:tz b x)(U:∀id,exitTo id (x::k)=exitTo id k)
 (al:∀aC a1 H1,r=some (aC,a1,H1)->jZ P B w0 μ H S fr cs m (x::k) a1 H1 aC)(he:zC E b r=some (e,aB,H')):jZ P B w0 μ H S fr cs m k aB H' e:=by
 cases r with
 |none=>cases he
 |some p=>
  obtain⟨aC,a1,H1⟩:=p;have aa:=al aC a1 H1 rfl;by_cases aw:aC=.normal
  ·subst aw;have he:E.code b a1 H1=some (e,aB,H'):=he;exact aa.bind fun eE bh t1 d1 fs jQ=>aL b a1 H1 e aB H' he eE bh fr t1 d1 fs k x jQ.h jQ.f dM
  ·have he:some (aC,a1,H1)=some (e,aB,H'):=by
    cases aC<;>first|exact absurd rfl aw|exact he
   simp only[b9,c'] at he;obtain⟨rfl,rfl,rfl⟩:=he;exact aa.pass (fun id _=>U id) aw
def Lx(P:Program)(B:Nat->Prop)(w0:World)(E:eT):Prop:=
 ∀f params assign body S H e aB H',xp P E f params assign body S H=some (e,aB,H')->∀μ w fr tmps ds cs k,bL P B w0 μ H w->gO μ S fr tmps ds cs->
  jZ P B w0 μ H S fr cs (lone (bt fr tmps ds (.code (.rangeFunc f params assign body)::k)) cs w) k aB H' e
theorem MQ{E:eT}(l5:P.follows .mixedOrders=true)(aL:oH P B w0 E.code)(Xt:Sf P B w0 E.call)(Zc:S4 P B w0 E.aE)(YD:Lx P B w0 E):oH P B w0 (CQ P E):=by
 have hf:=Xt B w0 (fun _ h=>h) (Kept.refl _ _);have mP:=Zc B w0 (fun _ h=>h) (Kept.refl _ _);intro c S H e aB H' he μ w fr tmps ds cs k it h az dM;have o9:(∀bw,c≠.loop bw)->it=.code c:=fun dI=>by
  rcases dM with q|⟨bw,q,_⟩
  ·exact q
  ·exact absurd q (dI bw)
 unfold CQ at he;cases c with
 |skip=>
  obtain rfl:=o9 (fun _ q=>by cases q);have he:some (Exit.normal,S,H)=some (e,aB,H'):=he;simp only[b9,c'] at he;obtain⟨rfl,rfl,rfl⟩:=he;exact⟨μ,w,tmps,ds,cs,.refl h az,.one adE⟩
 |label l=>
  obtain rfl:=o9 (fun _ q=>by cases q);have he:some (Exit.normal,S,H)=some (e,aB,H'):=he;simp only[b9,c'] at he;obtain⟨rfl,rfl,rfl⟩:=he;exact⟨μ,w,tmps,ds,cs,.refl h az,.one ads⟩
 |exit id=>
  obtain rfl:=o9 (fun _ q=>by cases q);have he:some (Exit.exit id,S,H)=some (e,aB,H'):=he;simp only[b9,c'] at he;obtain⟨rfl,rfl,rfl⟩:=he;exact⟨μ,w,tmps,ds,cs,k,.refl h az,rfl,.refl P _⟩
 |ret=>
  obtain rfl:=o9 (fun _ q=>by cases q);have he:some (Exit.ret,S,H)=some (e,aB,H'):=he;simp only[b9,c'] at he;obtain⟨rfl,rfl,rfl⟩:=he;exact⟨μ,w,tmps,ds,cs,k,.refl h az,.refl P _⟩
 |goto l=>cases he
 |refuse ah'=>cases he
 |region id ops d=>
  obtain rfl:=o9 (fun _ q=>by cases q);cases d with
  |false=>
   have he:qB (xo P E.call E.aE ops.toList ops.toList S H)=some (e,aB,H'):=he;cases al:xo P E.call E.aE ops.toList ops.toList S H with
   |none=>rw[al] at he;cases he
   |some bV=>
    rw[al] at he;have:=VD (k:=k) (fr:=fr) hf mP ops.toList 0 μ w S H tmps ds cs bV (by simp) h az al;have aC:List.range' 0 ops.toList.length=List.range ops.size:=by rw[SD];simp
    rw[aC] at this;exact(JE he this).steps (.one Rc)
  |true=>
   have he:qB (tO P E.call E.aE ops.toList S H)=some (e,aB,H'):=he;cases al:tO P E.call E.aE ops.toList S H with
   |none=>rw[al] at he;cases he
   |some bV=>
    rw[al] at he;refine JE he ?_;unfold tO at al;cases aA:D6 ops.toList with
    |none=>rw[aA] at al;exact Vt l5 hf mP h az al
    |some L=>rw[aA] at al;cases al
 |seq a b=>
  obtain rfl:=o9 (fun _ q=>by cases q);have he:zC E b (E.code a S H)=some (e,aB,H'):=he;exact QS aL (.inl rfl) (fun id=>rfl) (fun aC a1 H1 q=>(aL a S H aC a1 H1 q μ w fr tmps ds cs (.code b::k) (.code a) h az (.inl rfl)).steps (.one JW)) he
 |cond x a b=>
  obtain rfl:=o9 (fun _ q=>by cases q);have he:CD E S H a b (aW S.T H x)=some (e,aB,H'):=he;cases U:aW S.T H x with
  |none=>rw[U] at he;cases he
  |some v=>
   rw[U] at he;have ay:=qu h az.t U;cases v with
   |bool t=>
    have ah:=ay.zw;cases t with
    |true=>
     have he:E.code a S H=some (e,aB,H'):=he;exact(aL a S H e aB H' he μ w fr tmps ds cs k (.code a) h az (.inl rfl)).steps (.one (Q9 ah))
    |false=>
     have he:E.code b S H=some (e,aB,H'):=he;exact(aL b S H e aB H' he μ w fr tmps ds cs k (.code b) h az (.inl rfl)).steps (.one (Q9 ah))
   |_=>cases he
 |block id c=>
  obtain rfl:=o9 (fun _ q=>by cases q);have he:Ga id (E.code c S H)=some (e,aB,H'):=he;cases al:E.code c S H with
  |none=>rw[al] at he;cases he
  |some p=>
   obtain⟨aC,a1,H1⟩:=p;rw[al] at he;have aa:=(aL c S H aC a1 H1 al μ w fr tmps ds cs (.inBlock id::k) (.code c) h az (.inl rfl)).steps (.one (adl (P:=P)));cases aC with
   |exit kg=>
    have he:(bif Nat.beq kg id then some (Exit.normal,a1,H1) else some (Exit.exit kg,a1,H1))=some (e,aB,H'):=he;obtain⟨bx,bX,cy,c0,cr,dY,fI,jw,k9⟩:=aa;cases ah:Nat.beq kg id with
    |true=>
     rw[ah,b1] at he;simp only[b9,c'] at he;obtain⟨rfl,rfl,rfl⟩:=he;obtain rfl:=dX ah;have aC:exitTo kg (.inBlock kg::k)=some k:=by simp[exitTo]
     exact⟨bx,bX,cy,c0,cr,fI,k9.trans (.one (adp (jw.trans aC)))⟩
    |false=>
     rw[ah,da] at he;simp only[b9,c'] at he;obtain⟨rfl,rfl,rfl⟩:=he;have dP:¬id=kg:=fun q=>by subst q;simp at ah
     have aC:exitTo kg (.inBlock id::k)=exitTo kg k:=by simp[exitTo,dP]
     exact⟨bx,bX,cy,c0,cr,dY,fI,jw.trans aC,k9⟩
   |normal=>
    have he:some (Exit.normal,a1,H1)=some (e,aB,H'):=he;simp only[b9,c'] at he;obtain⟨rfl,rfl,rfl⟩:=he;obtain⟨bx,bX,cy,c0,cr,dY,fI⟩:=aa;exact⟨bx,bX,cy,c0,cr,dY,fI.trans (.one adq)⟩
   |goto l=>exact aa.elim
   |ret=>
    have he:some (Exit.ret,a1,H1)=some (e,aB,H'):=he;simp only[b9,c'] at he;obtain⟨rfl,rfl,rfl⟩:=he;exact aa.pass (fun id q=>by cases q) (fun q=>by cases q)
   |panic cf=>
    have he:some (Exit.panic cf,a1,H1)=some (e,aB,H'):=he;simp only[b9,c'] at he;obtain⟨rfl,rfl,rfl⟩:=he;exact aa.pass (fun id q=>by cases q) (fun q=>by cases q)
   |outgrown=>exact aa.elim
 |loop c=>
  have he:zC E (.loop c) (E.code c S H)=some (e,aB,H'):=he;have bT:step P (lone (bt fr tmps ds (it::k)) cs w)=.next (lone (bt fr tmps ds (.code c::.inLoop c::k)) cs w):=by
   rcases dM with rfl|⟨bw,q,rfl⟩
   ·exact Rb
   ·injection q with q;subst q;exact Ra
  exact QS aL (.inr ⟨c,rfl,rfl⟩) (fun id=>rfl) (fun aC a1 H1 q=>(aL c S H aC a1 H1 q μ w fr tmps ds cs (.inLoop c::k) (.code c) h az (.inl rfl)).steps (.one bT)) he
 |scope c=>
  obtain rfl:=o9 (fun _ q=>by cases q);have he:Mg (E.code c S H)=some (e,aB,H'):=he;cases al:E.code c S H with
  |none=>rw[al] at he;cases he
  |some p=>
   obtain⟨aC,a1,H1⟩:=p;rw[al] at he;have aa:=(aL c S H aC a1 H1 al μ w fr tmps ds cs (.inScope c::k) (.code c) h az (.inl rfl)).steps (.one (adD (P:=P)));have he:some (aC,a1,H1)=some (e,aB,H'):=by cases aC<;>first|exact he|exact aa.elim
   simp only[b9,c'] at he;obtain⟨rfl,rfl,rfl⟩:=he;by_cases aw:aC=.normal
   ·subst aw;obtain⟨bx,bX,cy,c0,cr,dY,fI⟩:=aa;exact⟨bx,bX,cy,c0,cr,dY,fI.trans (.one adr)⟩
   ·exact aa.pass (fun id _=>rfl) aw
 |rangeFunc f params assign body=>
  obtain rfl:=o9 (fun _ q=>by cases q);have he:xp P E f params assign body S H=some (e,aB,H'):=he;exact YD f params assign body S H e aB H' he μ w fr tmps ds cs k h az
end
end
end Go.Cre

/- A part of the proof of TableBounds. -/
import Derived.Test.YtccpobhlccjkiaaGreatDoorCai
set_option linter.defProp false
set_option maxRecDepth 100000
set_option linter.unusedVariables false
set_option linter.unusedSimpArgs false
set_option maxHeartbeats 8000000
namespace Go.Opn
noncomputable section
open Go.Cre Go.RowKit Go.Proofs
def ai.join(J bj:ai):ai:=fun a=>match J a with|some x=>some x|none=>bj a
def ai.join_le{J bj:ai}:J.le (J.join bj):=fun a x h=>by unfold ai.join;rw[h]
def Inv.ac0{g0:Nat}{J wi bj:ai}{m':aJ}{H H':aw}(h:Inv g0 (iJ [] H J) J [] H)(aQ:wi.le J)(hk:Inv g0 (iJ [] H wi) bj m' H'):Inv g0 (iJ [] H J) (J.join bj) m' H'/\bj.le (J.join bj):=by
 have cI:∀a x,J a=some x->a<H.ao:=fun a x q=>by
  obtain⟨c,e⟩:=x;obtain⟨o,f,z,s,q⟩:=h.eG a c e q;exact h.wf.lt q
 have eO:∀a,¬xo [] a:=fun a q=>absurd q (by unfold xo;exact Lr);have Co:∀a,a<H.ao->H'.mem.get a=H.mem.get a:=fun a q=>hk.fU a q (eO a);have Jk:∀a c e,J.join bj a=some (c,e)->∃o f z s,H'.mem.get a=some (.row c e o f z s):=fun a c e q=>by
  unfold ai.join at q;cases gX:J a with
  |some x=>
   rw[gX] at q;injection q with q
   subst q;rw[Co a (cI a _ gX)];exact h.eG a c e gX
  |none=>rw[gX] at q;exact hk.eG a c e q
 refine⟨⟨hk.wf,hk.bJ,hk.ao,hk.cC,hk.fU,hk.oe,Jk,ai.join_le,fun a x aN aH=>?_,fun a b q=>?_,fun a b q x U=>?_,hk.gZ⟩,fun a x q=>?_⟩
 ·have aN:J a=none:=aN;unfold ai.join at aH;rw[aN] at aH;refine hk.fresh a x ?_ aH;show wi a=none;cases ae:wi a with
  |none=>rfl
  |some y=>rw[aQ _ _ ae] at aN;cases aN
 ·obtain⟨aX,aT,bd,cm⟩:=hk.own a b q;refine⟨aX,aT,?_,cm⟩;unfold ai.join;cases gX:J a with
  |none=>exact bd
  |some y=>
   rcases aT with k|k
   ·exact absurd (cI a y gX) (Nat.not_lt_of_le k)
   ·exact absurd k (eO a)
 ·obtain⟨aX,aT,bd⟩:=hk.opn a b q x U;refine⟨aX,aT,?_⟩;unfold ai.join;cases gX:J x with
  |none=>exact bd
  |some y=>
   rcases aT with k|k
   ·exact absurd (cI x y gX) (Nat.not_lt_of_le k)
   ·exact absurd k (eO x)
 ·unfold ai.join;cases gX:J a with
  |none=>exact q
  |some y=>
   obtain⟨c,e⟩:=x;obtain⟨c',bA⟩:=y;obtain⟨o,f,z,s,dc⟩:=hk.eG a c e q;obtain⟨o',ck,h8,de,c9⟩:=h.eG a c' bA gX;rw[<-Co a (cI a _ gX),dc] at c9;injection c9 with c9
   injection c9 with aF aV
   subst aF;subst aV;rfl
section
variable {K:dW}{B:dN}{ops:List Oper}{a0:List jM}{F:List uH}{E:bY}{m m':aJ}{J:ai}{o:Oper}{bq:bY->aJ->ai->Prop}
variable {n:Nat}{ds:er}{l:List (Nat×Value)}{d i:Nat}
def Bt(J:ai)(f:FuncId)(gG:List Value)(dI:Value->aJ->ai->Prop)(x:uH):Prop:=x.f=f->x.bP=gG->x.a1=[]/\x.J.le J/\∀v m' bj c3,x.dI v m' bj->bj.le c3->J.le c3->dI v m' c3
def ec{J:ai}{f:FuncId}{gG:List Value}{dI:Value->aJ->ai->Prop}:∀x∈([]:List uH),Bt J f gG dI x:=fun x U=>by cases U
def dF{J:ai}{f:FuncId}{gG:List Value}{dI:Value->aJ->ai->Prop}{hT:uH}(aQ:Bt J f gG dI hT)(h:∀x∈F,Bt J f gG dI x):∀x∈hT::F,Bt J f gG dI x:=fun x U=>by
 rcases fs.1 U with rfl|U
 ·exact aQ
 ·exact h x U
def e5{J:ai}{f:FuncId}{gG:List Value}{dI:Value->aJ->ai->Prop}{hT:uH}(h:Nat.beq hT.f f=false):Bt J f gG dI hT:=fun ay=>by
 rw[ay,ix] at h;cases h
def bB.ej{c:Call}{x:Operand}{f:FuncId}{first cap:Array Value}{args gG:List Value}{dI:Value->aJ->ai->Prop}
 (hi:nth ops i=some o)(aB:o.guard=none)(al:o.op=.call c)(av:o.dst=some d)(aA:Nat.blt d n=true)(ax:c.callee=.value x)(U:bS l x=some (.func (.func f) first cap))(aI:jH l c.args.toList=some args)(has:(first.toList++args)++cap.toList=gG)
 (hs:∀x∈F,Bt J f gG dI x)(bC:Fn K f gG [] J dI)(h:∀v m' ah,J.le ah->dI v m' ah->bB K B ops a0 (⟨f,gG,[],J,dI,false⟩::F) ⟨n,ds,(d,v)::l⟩ (m'++m) ah bq):bB K B ops (.bw i::a0) F ⟨n,ds,l⟩ m J bq:=by
 intro T S H cq au aD;have ap:([]++m).Perm m:=.refl _;have gW:=aD.enter (a1:=[]) ap trivial;obtain⟨v,H',ah,m',aX,aT,bd,ik⟩:∃v H' ah m',j5 K.Q f gG H (.returned v) H'/\Inv K.g0 (iJ [] H J) ah m' H'/\dI v m' ah/\∀r,T f gG H=some r->r=(Ending.returned v,H'):=by
  cases vk:T f gG H with
  |none=>
   obtain⟨v,H',ah,m',aX,aT,bd⟩:=bC H gW;exact⟨v,H',ah,m',aX,aT,bd,fun r q=>by cases q⟩
  |some r=>
   obtain⟨x,U,⟨aF,aV,Sx,v,H',bj,m',sv,aX,aT,bd⟩,nU⟩:=cq _ _ _ _ vk;obtain⟨aN,aH,bo⟩:=hs x U aF aV;rw[aN] at aT;obtain⟨JL,JM⟩:=gW.ac0 aH aT;exact⟨v,H',_,m',aX,JL,bo v m' bj _ bd JM ai.join_le,fun cu q=>by injection q with q;rw[<-q];exact sv⟩
 have hZ:H.ao<=H'.ao:=aT.ao;obtain⟨cm,fz⟩:=aD.leave ap aT;obtain⟨a3,s1,s2⟩:=au.put (dst:=some d) aA v
 classical
 obtain⟨cg,dj,aL,oz,E',ki,pa,ae,ag,aE,a6⟩:=h v m' ah fz bd (fun ck BE H1=>if ck=f/\BE=gG/\H1=H then some (.returned v,H') else T ck BE H1) a3 H' (fun ck BE H1 r q=>by
  split at q
  ·rename_i e;obtain⟨rfl,rfl,rfl⟩:=e;injection q with q
   exact⟨_,.head _,⟨I,I,gW,v,H',ah,m',q.symm,aX,aT,bd⟩,fun e=>by cases e⟩
  ·obtain⟨x,U,cu,sT⟩:=cq _ _ _ _ q;exact⟨x,.tail _ U,cu,fun e=>kw (sT e) hZ⟩) s2 cm
 refine⟨fun ck bV H1=>if ck=f/\bV=gG/\H1=H then some (.returned v,H') else cg ck bV H1,fun ck bV H1 r cu aN aH=>?_,aL,oz,E',ki,pa,fun eh q=>?_,ag,aE,a6⟩
 ·dsimp only at aH
  split at aH
  ·rename_i e;obtain⟨rfl,rfl,rfl⟩:=e;injection aH with aH
   rw[ik r aN,aH]
  ·rename_i e;exact dj ck bV H1 r cu (by rw[aG e];exact aN) aH
 ·have gT:eh f gG H=some (.returned v,H'):=q f gG H _ (by simp only[LQ,aP]);have vw:∀ck bV H1 r,cg ck bV H1=some r->eh ck bV H1=some r:=fun ck bV H1 r ar=>by
   by_cases e:ck=f/\bV=gG/\H1=H
   ·have:=dj ck bV H1 (.returned v,H') r (by rw[aP e]) ar;rw[this,e.1,e.2.1,e.2.2];exact gT
   ·exact q ck bV H1 r (by dsimp only;rw[aG e];exact ar)
  show jl ops i (fun o=>jS ops (dA K.P _ _ ops a0) (one K.P _ _ ops S H o))=_;unfold jl;rw[hi];show jS ops (dA K.P _ _ ops a0) (one K.P _ _ ops S H o)=_;unfold one gK;rw[aB];show jS ops (dA K.P _ _ ops a0) (o2 S H o.dst (cA K.P _ _ S H o))=_;have he:cA K.P (hY K.Q eh) (fW K.Q g7 eh).aO S H o=some (.val v H'):=by
   unfold cA fi;simp only[al];show kN K.P _ c=_;unfold kN;rw[ax];show nj K.P _ _ S.T H c=_;unfold nj;rw[pQ au H aI];simp only[ax];rw[dw au H U];simp only
   show(match kY K.P H (.func f) (first.toList++args) cap.toList with|some (f,gG)=>oL (hY K.Q _ f gG H)|none=>none)=_
   unfold kY;simp only
   rw[has,Ac aX gT];rfl
  rw[he,av];show jS ops (dA K.P _ _ ops a0) (oq H' (S.put (some d) v))=_;rw[s1];exact ae eh vw
def bB.WV{v:Value}{B4:Nat}{want:Bool}(hi:nth ops i=some o)(aB:nl ops o=some (B4,want))(ak:look l B4=some (.bool want))(av:o.dst=some d)(aA:Nat.blt d n=true)(az:dr K B o n ds l m J v)(h:bB K B ops a0 F ⟨n,ds,(d,v)::l⟩ m J bq):bB K B ops (.val i::a0) F ⟨n,ds,l⟩ m J bq:=by
 intro T S H cq au aD;obtain⟨a3,s1,s2⟩:=au.put (dst:=some d) aA v;obtain⟨cg,dj,aL,H',E',m',ah,ae,ag,aE,a6⟩:=h T a3 H cq s2 aD;refine⟨cg,dj,aL,H',E',m',ah,fun eh q=>?_,ag,aE,a6⟩;show jl ops i (mM K.P _ _ ops S H (dA K.P _ _ ops a0))=_;unfold jl;rw[hi];show mM K.P _ _ ops S H (dA K.P _ _ ops a0) o=_;unfold mM;rw[EP aB (au.get B4 _ ak),show(want==want)=true by cases want<;>rfl];show Du S H o.dst (dA K.P _ _ ops a0) (cA K.P _ _ S H o)=_;rw[az _ _ S H au aD,av];show(bif Nat.beq H.ao H.ao then qe (dA K.P _ _ ops a0) H (S.put (some d) v) else none)=_;rw[ix,cd,s1];exact ae eh q
def bB.Zb{c:Call}{x:Operand}{f:FuncId}{first cap:Array Value}{B4:Nat}{want:Bool}{args gG:List Value}{dI:Value->aJ->ai->Prop}
 (hi:nth ops i=some o)(aB:nl ops o=some (B4,want))(ak:look l B4=some (.bool want))(al:o.op=.call c)(av:o.dst=some d)(aA:Nat.blt d n=true)(ax:c.callee=.value x)(U:bS l x=some (.func (.func f) first cap))(aI:jH l c.args.toList=some args)(has:(first.toList++args)++cap.toList=gG)
 (hs:∀x∈F,Bt J f gG dI x)(bC:Fn K f gG [] J dI)(h:∀v m' ah,J.le ah->dI v m' ah->bB K B ops a0 (⟨f,gG,[],J,dI,false⟩::F) ⟨n,ds,(d,v)::l⟩ (m'++m) ah bq):bB K B ops (.bw i::a0) F ⟨n,ds,l⟩ m J bq:=by
 intro T S H cq au aD;have ap:([]++m).Perm m:=.refl _;have gW:=aD.enter (a1:=[]) ap trivial;obtain⟨v,H',ah,m',aX,aT,bd,ik⟩:∃v H' ah m',j5 K.Q f gG H (.returned v) H'/\Inv K.g0 (iJ [] H J) ah m' H'/\dI v m' ah/\∀r,T f gG H=some r->r=(Ending.returned v,H'):=by
  cases vk:T f gG H with
  |none=>
   obtain⟨v,H',ah,m',aX,aT,bd⟩:=bC H gW;exact⟨v,H',ah,m',aX,aT,bd,fun r q=>by cases q⟩
  |some r=>
   obtain⟨x,U,⟨aF,aV,Sx,v,H',bj,m',sv,aX,aT,bd⟩,nU⟩:=cq _ _ _ _ vk;obtain⟨aN,aH,bo⟩:=hs x U aF aV;rw[aN] at aT;obtain⟨JL,JM⟩:=gW.ac0 aH aT;exact⟨v,H',_,m',aX,JL,bo v m' bj _ bd JM ai.join_le,fun cu q=>by injection q with q;rw[<-q];exact sv⟩
 have hZ:H.ao<=H'.ao:=aT.ao;obtain⟨cm,fz⟩:=aD.leave ap aT;obtain⟨a3,s1,s2⟩:=au.put (dst:=some d) aA v
 classical
 obtain⟨cg,dj,aL,oz,E',ki,pa,ae,ag,aE,a6⟩:=h v m' ah fz bd (fun ck BE H1=>if ck=f/\BE=gG/\H1=H then some (.returned v,H') else T ck BE H1) a3 H' (fun ck BE H1 r q=>by
  split at q
  ·rename_i e;obtain⟨rfl,rfl,rfl⟩:=e;injection q with q
   exact⟨_,.head _,⟨I,I,gW,v,H',ah,m',q.symm,aX,aT,bd⟩,fun e=>by cases e⟩
  ·obtain⟨x,U,cu,sT⟩:=cq _ _ _ _ q;exact⟨x,.tail _ U,cu,fun e=>kw (sT e) hZ⟩) s2 cm
 refine⟨fun ck bV H1=>if ck=f/\bV=gG/\H1=H then some (.returned v,H') else cg ck bV H1,fun ck bV H1 r cu aN aH=>?_,aL,oz,E',ki,pa,fun eh q=>?_,ag,aE,a6⟩
 ·dsimp only at aH
  split at aH
  ·rename_i e;obtain⟨rfl,rfl,rfl⟩:=e;injection aH with aH
   rw[ik r aN,aH]
  ·rename_i e;exact dj ck bV H1 r cu (by rw[aG e];exact aN) aH
 ·have gT:eh f gG H=some (.returned v,H'):=q f gG H _ (by simp only[LQ,aP]);have vw:∀ck bV H1 r,cg ck bV H1=some r->eh ck bV H1=some r:=fun ck bV H1 r ar=>by
   by_cases e:ck=f/\bV=gG/\H1=H
   ·have:=dj ck bV H1 (.returned v,H') r (by rw[aP e]) ar;rw[this,e.1,e.2.1,e.2.2];exact gT
   ·exact q ck bV H1 r (by dsimp only;rw[aG e];exact ar)
  show jl ops i (fun o=>jS ops (dA K.P _ _ ops a0) (one K.P _ _ ops S H o))=_;unfold jl;rw[hi];show jS ops (dA K.P _ _ ops a0) (one K.P _ _ ops S H o)=_;unfold one;rw[EP aB (au.get B4 _ ak),show(want==want)=true by cases want<;>rfl];show jS ops (dA K.P _ _ ops a0) (o2 S H o.dst (cA K.P _ _ S H o))=_;have he:cA K.P (hY K.Q eh) (fW K.Q g7 eh).aO S H o=some (.val v H'):=by
   unfold cA fi;simp only[al];show kN K.P _ c=_;unfold kN;rw[ax];show nj K.P _ _ S.T H c=_;unfold nj;rw[pQ au H aI];simp only[ax];rw[dw au H U];simp only
   show(match kY K.P H (.func f) (first.toList++args) cap.toList with|some (f,gG)=>oL (hY K.Q _ f gG H)|none=>none)=_
   unfold kY;simp only
   rw[has,Ac aX gT];rfl
  rw[he,av];show jS ops (dA K.P _ _ ops a0) (oq H' (S.put (some d) v))=_;rw[s1];exact ae eh vw
def bB.ayL{b:Bool}(ak:look l d=some (.bool b))(ae:b=true->bB K B ops a0 F ⟨n,ds,(d,.bool true)::l⟩ m J bq)(aQ:b=false->bB K B ops a0 F ⟨n,ds,(d,.bool false)::l⟩ m J bq):bB K B ops a0 F ⟨n,ds,l⟩ m J bq:=by
 intro T S H cq au aD;have key:∀c:Bool,b=c->Sat ⟨n,ds,(d,.bool c)::l⟩ S:=fun c e=>by
  subst e;refine⟨au.n,au.ds,au.bQ,au.bg,au.cx,au.has,fun t v q=>?_⟩;have aH:(bif Nat.beq t d then some (Value.bool b) else look l t)=some v:=q;cases b3:Nat.beq t d with
  |true=>rw[b3,cd] at aH;obtain rfl:=eM b3;rw[<-aH];exact au.get _ _ ak
  |false=>rw[b3,dQ] at aH;exact au.get t v aH
 cases b with
 |true=>exact ae I T S H cq (key true I) aD
 |false=>exact aQ I T S H cq (key false I) aD
def bB.WY(hi:nth ops i=some o)(du:∀S,Sat ⟨n,ds,l⟩ S->gK ops S.T o=some false)(av:o.dst=some d)(aA:Nat.blt d n=true)(h:bB K B ops a0 F ⟨n,ds,(d,undef)::l⟩ m J bq):bB K B ops (.val i::a0) F ⟨n,ds,l⟩ m J bq:=by
 intro T S H cq au aD;obtain⟨a3,s1,s2⟩:=au.put (dst:=some d) aA undef;obtain⟨cg,dj,aL,H',E',m',ah,ae,ag,aE,a6⟩:=h T a3 H cq s2 aD;refine⟨cg,dj,aL,H',E',m',ah,fun eh q=>?_,ag,aE,a6⟩;show jl ops i (mM K.P _ _ ops S H (dA K.P _ _ ops a0))=_;unfold jl;rw[hi];show mM K.P _ _ ops S H (dA K.P _ _ ops a0) o=_;unfold mM;rw[du S au];show qe (dA K.P _ _ ops a0) H (S.put o.dst undef)=_;rw[av,s1];exact ae eh q
def bB.akV(hi:nth ops i=some o)(du:∀S,Sat ⟨n,ds,l⟩ S->gK ops S.T o=some false)(av:o.dst=some d)(aA:Nat.blt d n=true)(h:bB K B ops a0 F ⟨n,ds,(d,undef)::l⟩ m J bq):bB K B ops (.bw i::a0) F ⟨n,ds,l⟩ m J bq:=by
 intro T S H cq au aD;obtain⟨a3,s1,s2⟩:=au.put (dst:=some d) aA undef;obtain⟨cg,dj,aL,H',E',m',ah,ae,ag,aE,a6⟩:=h T a3 H cq s2 aD;refine⟨cg,dj,aL,H',E',m',ah,fun eh q=>?_,ag,aE,a6⟩;show jl ops i (fun o=>jS ops (dA K.P _ _ ops a0) (one K.P _ _ ops S H o))=_;unfold jl;rw[hi];show jS ops (dA K.P _ _ ops a0) (one K.P _ _ ops S H o)=_;unfold one;rw[du S au];show jS ops (dA K.P _ _ ops a0) (oq H (S.put o.dst undef))=_;rw[av,s1];exact ae eh q
def bB.PC{g:Nat}{want b:Bool}(hi:nth ops i=some o)(aB:nl ops o=some (g,want))(ak:look l g=some (.bool b))(hw:(b==want)=false)(av:o.dst=some d)(aA:Nat.blt d n=true)(h:bB K B ops a0 F ⟨n,ds,(d,undef)::l⟩ m J bq):bB K B ops (.val i::a0) F ⟨n,ds,l⟩ m J bq:=bB.WY hi (Sa aB ak hw) av aA h
def bB.akT{g:Nat}{want b:Bool}(hi:nth ops i=some o)(aB:nl ops o=some (g,want))(ak:look l g=some (.bool b))(hw:(b==want)=false)(av:o.dst=some d)(aA:Nat.blt d n=true)(h:bB K B ops a0 F ⟨n,ds,(d,undef)::l⟩ m J bq):bB K B ops (.bw i::a0) F ⟨n,ds,l⟩ m J bq:=bB.akV hi (Sa aB ak hw) av aA h
def bB.nil(h:bq E m J):bB K B ops [] F E m J bq:=bB.OC (F':=F.map fun x=>(x.f,x.bP)) (fun x U=>List.mem_map_of_mem (f:=fun x=>(x.f,x.bP)) U) (bX.nil h)
def XA(d:Nat){b:Bool}{dj hQ:Prop}(ae:dj->bB K B ops a0 F ⟨n,ds,(d,.bool true)::l⟩ m J bq)(aQ:hQ->bB K B ops a0 F ⟨n,ds,(d,.bool false)::l⟩ m J bq)(ak:look l d=some (.bool b):=by exact I) (hs:pN b dj hQ:=by first|exact pN.p _|exact pN.b _):bB K B ops a0 F ⟨n,ds,l⟩ m J bq:=bB.ayL ak (fun q=>ae (hs.y q)) (fun q=>aQ (hs.n q))
end
section
variable {Q:da Tryz.prog}{g0:Nat}{B:dN}{o:Oper}{n:Nat}{ds:er}{l:List (Nat×Value)}{m:aJ}{J:ai}{d:Nat}
def Vk{p:Prop}(h:p:=by first|exact au8|exact dh some (dh (Value.int .u64) aa)|exact dh some (dh (Value.int .u32) aa)|exact dh some (dh (Value.int .i64) aa)):p:=h
def VJ{p:Prop}(h:p:=by first|decide|exact cJ|exact(show _<=((64:Nat):Int) from aa)):p:=h
def V.Ef{v:Value}(h:dr (aU Q g0) B o n ds l m J v:=by first|exact ag3 I I I|exact aAn I I I|exact aAq I I I cJ VJ|exact az9 I I I I cJ VJ|exact ag9 I I I cJ VJ|exact Gr I I aFh):dr (aU Q g0) B o n ds l m J v:=h
def eu{ops rest:List Oper}{bq:Option (List PanicEntry)->bY->aJ->ai->Prop}{t:TypeId}{z:Value}{cells:List Value}(h:∀a,W (aU Q g0) B ops rest ⟨n,ds,(d,.pointer (some ⟨a,0,none⟩))::l⟩ ((a,.row cells t)::m) J bq)(aB:o.guard=none:=by exact I) (al:o.op=.alloc t:=by exact I) (av:o.dst=some d:=by exact I) (aA:Nat.blt d n=true:=by exact I) (aR:h2 (aU Q g0).P t=some z:=by exact Pr I) (ap:plain z=true:=by exact I) (ax:z.cells.toList=cells:=by exact I) (ae:cells.all fx=true:=by exact I):W (aU Q g0) B ops (o::rest) ⟨n,ds,l⟩ m J bq:=W.step aB (.of (aA9 al av aA aR ap ax ae h))
def n4{ops rest:List Oper}{bq:Option (List PanicEntry)->bY->aJ->ai->Prop}{t:TypeId}{x y:Operand}{a off k:Nat}{v:Value}{vs cells cells':List Value}{e:TypeId}{m':aJ}(hs:gO off cells vs=some cells')(h:W (aU Q g0) B ops rest ⟨n,ds,l⟩ m' J bq)(aB:o.guard=none:=by exact I) (al:o.op=.store t x y:=by exact I) (av:o.dst=none:=by exact I) (U:bS l x=some (.pointer (some ⟨a,off,none⟩)):=by exact I) (an:bS l y=some v:=by exact I) (hk:e6 (aU Q g0).P t=some k:=by exact o6 I) (ax:v.cells.toList=vs:=by exact I) (aj:Nat.beq vs.length k=true:=by exact I) (aQ:Nat.blt 0 vs.length=true:=by exact I) (ae:vs.all fx=true:=by first|rfl|assumption) (ap:fY m a (.row cells e) (.row cells' e) m':=by repeat first|exact .head _ _ _ _|apply fY.tail|apply fY.app):W (aU Q g0) B ops (o::rest) ⟨n,ds,l⟩ m J bq:=W.step aB (.of (uE al av U an hk ax aj aQ ae hs ap h))
def dV{cp:Exit->bY->aJ->ai->Prop}{c:Code}(a9:List (Nat×Value))(h:aK (aU Q g0) B c ⟨n,ds,a9⟩ m J cp)(aj:lT l a9:=by repeat first|exact trivial|refine⟨Vk,?_⟩):aK (aU Q g0) B c ⟨n,ds,l⟩ m J cp:=aK.PI aj (iC _) h
def b4{e:Exit}{E:bY}{rs:List ResultVar}{vs:List Value}{z0:List Value->aJ->Prop}(ap:z0 vs [])(he:e=.normal\/e=.ret:=by first|exact .inl I|exact .inr I) (av:E.ds.ds=[]:=by exact I) (ar:nN (aU Q g0).P E m J rs vs:=by first|exact .tmp I .nil|exact .tmp I (.tmp I .nil)|exact .nil|exact pE .nil|exact pE (pE .nil)|exact pE (.tmp I .nil)|exact .tmp I (pE .nil)|exact .tmp I (.tmp I (.tmp I .nil))):(e=.normal\/e=.ret)/\E.ds.ds=[]/\∃vs m',nN (aU Q g0).P E m J rs vs/\m'.Sublist m/\z0 vs m':=⟨he,av,vs,[],ar,kt _,ap⟩
def iw{e:Exit}{E:bY}{rs:List ResultVar}{vs:List Value}{z0:List Value->aJ->Prop}(ap:z0 vs m)(he:e=.normal\/e=.ret:=by first|exact .inl I|exact .inr I) (av:E.ds.ds=[]:=by exact I) (ar:nN (aU Q g0).P E m J rs vs:=by first|exact .tmp I .nil|exact .tmp I (.tmp I .nil)|exact .nil|exact pE .nil|exact pE (pE .nil)|exact pE (.tmp I .nil)|exact .tmp I (pE .nil)|exact .tmp I (.tmp I (.tmp I .nil))):(e=.normal\/e=.ret)/\E.ds.ds=[]/\∃vs m',nN (aU Q g0).P E m J rs vs/\m'.Sublist m/\z0 vs m':=⟨he,av,vs,m,ar,iC _,ap⟩
end
structure XM where
 d:List (Nat×Value)
 m:aJ
 j:ai
 i:Prop
structure XN where
 d:List (Nat×Value)
 i:Prop
 k:Nat
section
variable {K:dW}{B:dN}{cp:Exit->bY->aJ->ai->Prop}{n:Nat}{ds:er}{l:List (Nat×Value)}{m:aJ}{J:ai}
def aK.pP{α:Type}{c:Code}(k:Nat)(r:α->XM)(ae:aK K B c ⟨n,ds,l⟩ m J fun e E' m' ah=>match e with
 |.normal=>∃s a9,(r s).i/\E'=⟨n,ds,a9⟩/\lT a9 ((r s).d++l.drop k)/\(∃j,((r s).m++j).Perm m')/\ah=(r s).j
 |e=>cp e E' m' ah)(ag:∀s,(r s).i->cp .normal ⟨n,ds,(r s).d++l.drop k⟩ (r s).m (r s).j):aK K B c ⟨n,ds,l⟩ m J cp:=
 aK.alN k (fun s=>(r s).d) (fun s=>(r s).m) (fun s=>(r s).j) (fun s=>(r s).i) ae ag
def iQ{α:Type}{r:α->XM}{base:List (Nat×Value)}(de:α)(hi:(r de).i)(hm:∃j,((r de).m++j).Perm m:=by exact ath) (aW:J=(r de).j:=by exact I) (aj:lT l ((r de).d++base):=by repeat first|exact trivial|refine⟨Vk,?_⟩):∃s a9,(r s).i/\(⟨n,ds,l⟩:bY)=⟨n,ds,a9⟩/\lT a9 ((r s).d++base)/\(∃j,((r s).m++j).Perm m)/\J=(r s).j:=⟨de,l,hi,I,aj,hm,aW⟩
def aK.og{α:Type}{c:Code}{base:List (Nat×Value)}(r:α->XN)(s:α)(hs:(r s).i)
 (bn:∀s,(r s).i->aK K B c ⟨n,ds,(r s).d++base⟩ m J fun e E cz bj=>match e with
  |.normal=>∃de l,(r de).i/\(r de).k<(r s).k/\E=⟨n,ds,l⟩/\lT l ((r de).d++base)/\m.Sublist cz/\bj=J
  |e=>cp e E cz bj):aK K B (.loop c) ⟨n,ds,(r s).d++base⟩ m J cp:=
 aK.atQ (fun s=>(r s).d) (fun s=>(r s).i) (fun s=>(r s).k) s hs bn
def om{α:Type}{r:α->XN}{base:List (Nat×Value)}{ik:Nat}{cz:aJ}{bj:ai}(de:α)(hi:(r de).i)(hm:m.Sublist cz:=by exact .refl _) (aW:bj=J:=by exact I) (hk:(r de).k<ik:=by first|omega|(simp;omega)|(simp only;omega)) (aj:lT l ((r de).d++base):=by repeat first|exact trivial|refine⟨Vk,?_⟩):∃de a9,(r de).i/\(r de).k<ik/\(⟨n,ds,l⟩:bY)=⟨n,ds,a9⟩/\lT a9 ((r de).d++base)/\m.Sublist cz/\bj=J:=⟨de,l,hi,hk,I,aj,hm,aW⟩
def ho{base:List (Nat×Value)}{t:Nat}{v:Value}{m':aJ}{ah:ai}(h:look l t=some v)(hm:m'.Sublist m:=by exact .refl _) (aW:ah=J:=by exact I) (aj:lT l base:=by repeat first|exact trivial|refine⟨I,?_⟩):(∃a9,(⟨n,ds,l⟩:bY)=⟨n,ds,a9⟩/\lT a9 ([(t,v)]++base))/\m'.Sublist m/\ah=J:=⟨⟨_,I,⟨h,aj⟩⟩,hm,aW⟩
def hC{p q:Prop}(h:p)(nV:Hid p->q:=by
 intro oT;first|exact Zw I oT.out|exact Zu I oT.out|exact Zv I oT.out|exact Zt I oT.out):q:=nV ⟨h⟩
end
structure v9 (c:Nat):Prop where
 t:True
def v9.d{c:Nat}(_:v9 c):v9 (Nat.div c 32):=⟨trivial⟩
def v9.v{c:Nat}(_:v9 c)(k:Nat)(_:Nat.mod c 32=k):True:=trivial
def v9.z{c:Nat}{p:Prop}(_:v9 c)(x:p)(_:Nat.beq c 0=true):p:=x
def v9.g{c:Nat}(_:v9 c)(_:(Nat.blt 0 (Nat.mod c 32)&&Nat.blt (Nat.mod c 32) 23)=true):True:=trivial
def af{p q:Prop}(c:Nat)(h:p)(nV:Hid p->v9 c->q:=by
 intro oT gb;repeat first
  |(have:=gb.g I
    first
       |refine' hA ?az ?_
       |refine' Qn ?az ?_
       |refine' GK I ?az ?_
       |refine' Xv I ?az ?_
       |refine' aiO I ?az ?_
       |refine' aiP I ?az ?_
       |refine' bB.val I I I I ?az ?_
       |refine' bB.WV I I I I I ?az ?_
    case az=>
       first
       |(have:=gb.v 1 I;exact V.eC)
       |(have:=gb.v 2 I;exact V.LU)
       |(have:=gb.v 3 I;exact V.n0)
       |(have:=gb.v 4 I;exact V.ahq)
       |(have:=gb.v 5 I;exact V.il)
       |(have:=gb.v 6 I;exact V.dM)
       |(have:=gb.v 7 I;exact V.ex)
       |(have:=gb.v 8 I;exact V.cg)
       |(have:=gb.v 9 I;exact V.adf)
       |(have:=gb.v 10 I;exact V.r0)
       |(have:=gb.v 11 I;exact V.ade)
       |(have:=gb.v 12 I;exact V.UW)
       |(have:=gb.v 13 I;exact V.aah)
       |(have:=gb.v 14 I;exact V.i')
       |(have:=gb.v 15 I;exact V.Ms)
       |(have:=gb.v 16 I;exact V.yi)
       |(have:=gb.v 17 I;exact V.aer)
       |(have:=gb.v 18 I;exact V.fn)
       |(have:=gb.v 19 I;exact V.acR)
       |(have:=gb.v 20 I;exact V.Ef)
       |(have:=gb.v 21 I;exact V.acO)
       |(have:=gb.v 22 I;exact V.aec)
    replace gb:=gb.d)
  |(have:=gb.v 23 I;repeat refine aK.seq ?_
    replace gb:=gb.d)
  |(have:=gb.v 24 I;first|refine nh ?_|refine bX.nil ?_|refine hK.nil ?_
    replace gb:=gb.d)
  |(have:=gb.v 25 I;repeat refine aK.seq ?_
    refine aK.region ?_;replace gb:=gb.d)
  |(have:=gb.v 26 I;first|refine aK.skip ?_|refine aK.ret ?_|refine aK.block ?_|refine aK.exit ?_|refine aK.region ?_|refine aK.alz I ?_|refine aK.aly I ?_
    replace gb:=gb.d)
  |(have:=gb.v 27 I;first|refine yc ?_|refine ai1 ?_|refine aiV I ?_|refine bB.PC I I I I I I ?_|refine bB.aFZ I I I I I ?_
    replace gb:=gb.d)
  |(have:=gb.v 28 I;first|refine ai0 ?_|refine ah7 I ?_
    replace gb:=gb.d)
  |(have:=gb.v 29 I;first|refine bX.b6 eN ?_|refine bB.b6 eN ?_
    replace gb:=gb.d)
  |(have:=gb.v 30 I;first|refine bX.aew ?_|refine bB.OC (fun x U=>List.mem_map_of_mem (f:=fun x=>(x.f,x.bP)) U) ?_
    replace gb:=gb.d)
  |(have:=gb.v 31 I;first|refine W.aaF I I I I I ?_|refine aK.atT ?_
    replace gb:=gb.d)
 exact gb.z oT.out I):q:=nV ⟨h⟩ ⟨trivial⟩
structure dn where
 k:Int
 p:Int
 i:Int
 ao:List Int
 ws:List Int
 im:List Int
structure cM where
 pl:Int
 ns:List dn
 is:List (Int×Int)
open Classical
def g1 (g:cM)(x:dn):Int:=
 if x.k=1 then
  if x.p≠0\/x.i≠0\/0<x.im.length\/x.ao.length<1\/60<x.ao.length\/x.ws.length≠x.ao.length then 3
  else if ∃w∈x.ws,w<1\/1000<w then 2 else 0
 else if x.k=2 then
  if 0<x.im.length\/0<x.ws.length\/x.ao.length<1\/10<x.ao.length then 3
  else if x.p<0\/g.pl<=x.p\/x.i<0\/(g.is.length:Int)<=x.i then 2 else 0
 else if x.k=3 then
  if x.p≠0\/x.i≠0\/0<x.ao.length\/0<x.ws.length\/(x.im.length:Int)≠g.pl then 3
  else if ∃w∈x.im,w< -1000000\/1000000<w then 2 else 0
 else 3
def p5 (g:cM):List dn->Int
 |[]=>0
 |x::r=>if g1 g x≠0 then g1 g x else p5 g r
abbrev iv:=Int×Int×Int
def hc(rec:Nat->Option (Nat×List iv)):List Int->Nat->Option (Nat×List iv)
 |[],n=>some (n,[])
 |c::r,n=>if c≠(n:Int) then none else match rec n with
  |none=>none
  |some (bH,es)=>match hc rec r bH with
   |none=>none
   |some (c2,u9)=>some (c2,es++u9)
def gq(ns:List dn):Nat->Int->Int->Nat->Option (Nat×List iv)
 |0,_,_,_=>none
 |f+1,p8,d,a=>match ns[a]? with
  |none=>none
  |some x=>match hc (gq ns f a (d+1)) x.ao (a+1) with
   |none=>none
   |some (n,es)=>some (n,(p8,d,(n:Int) -1)::es)
def yu(es:List iv):Int:=es.foldl (fun m e=>max m e.2.1) 0
def ls(i:Int):Nat->List dn->List Int
 |_,[]=>[]
 |j,x::r=>if x.k=2/\x.i=i then(j:Int)::ls i (j+1) r else ls i (j+1) r
def q7(g:cM):List (List Int):=(List.range g.is.length).map fun(i:Nat)=>ls (i:Int) 0 g.ns
def sL(l:List Int):Int:=match l with|[]=>-1|x::_=>x
def iG (g:cM):Int:=
 if g.pl<1\/4<g.pl\/g.ns.length<1\/2000<g.ns.length\/200<g.is.length then 2
 else if p5 g g.ns≠0 then p5 g g.ns
 else match gq g.ns (g.ns.length+1) (-1) 0 0 with
  |none=>9
  |some (n,es)=>
   if n≠g.ns.length then 9
   else if 40<yu es then 5
   else if ∃x∈g.ns,x.k=2/\g.is[x.i.toNat]?≠some (x.p,(x.ao.length:Int)) then 10
   else if ∃s∈q7 g,s=[] then 18
   else if ∃(i:Nat) (s t:List Int),(q7 g)[i]?=some s/\(q7 g)[i+1]?=some t/\sL t<sL s then 9
   else 0
def au2{g:cM}:∀{l:List dn},p5 g l=0->∀x∈l,g1 g x=0:=by
 intro l;induction l with
 |nil=>intro _ x U;cases U
 |cons y r aC=>
  intro h x U;have h:(if g1 g y≠0 then g1 g y else p5 g r)=0:=h;by_cases q:g1 g y=0
  ·rw[aG (fun k=>k q)] at h;rcases fs.1 U with e|e
   ·rw[e];exact q
   ·exact aC h x e
  ·rw[aP q] at h;exact absurd h q
def au1{g:cM}{x:dn}(h:g1 g x=0)(ap:g.pl<=4):x.ao.length<=60/\x.ws.length<=60/\x.im.length<=60:=by
 unfold g1 at h;split at h
 ·split at h
  ·omega
  ·split at h<;>omega
 ·split at h
  ·split at h
   ·omega
   ·split at h<;>omega
  ·split at h
   ·split at h
    ·omega
    ·split at h<;>omega
   ·omega
structure kS (g:cM):Prop where
 dj:1<=g.pl
 m3:g.pl<=4
 bH:1<=g.ns.length
 c2:g.ns.length<=2000
 i2:g.is.length<=200
 nodes:∀x∈g.ns,g1 g x=0
 walk:∃es,gq g.ns (g.ns.length+1) (-1) 0 0=some (g.ns.length,es)/\yu es<=40
 types:∀x∈g.ns,x.k=2->g.is[x.i.toNat]?=some (x.p,(x.ao.length:Int))
 ayo:∀s∈q7 g,s≠[]
def EK{g:cM}(h:iG g=0):kS g:=by
 unfold iG at h;split at h
 ·omega
 rename_i ae;split at h
 ·rename_i q;exact absurd h q
 rename_i ag;split at h
 ·omega
 rename_i n es aE;split at h
 ·omega
 rename_i a6;split at h
 ·omega
 rename_i dK;split at h
 ·omega
 rename_i ga;split at h
 ·omega
 rename_i mx;have a6:n=g.ns.length:=x4.1 a6;subst a6;refine⟨aa,aa,aa,aa,aa,au2 (x4.1 ag),⟨es,aE,aa⟩,fun x U hk=>?_,fun s hs q=>mx ⟨s,hs,q⟩⟩;exact ox fun q=>ga ⟨x,U,hk,q⟩
def asZ(l:List Int):(l.map (Value.int .i64)).all fx=true:=by
 induction l with
 |nil=>rfl
 |cons a l aC=>rw[tp,DQ,aC];rfl
def qu(aS:aJ)(J:ai)(b:Option Addr)(l:List Int):Prop:=0<l.length->∃a off cells,b=some ⟨a,off,none⟩/\mo aS J a cells/\∀i:Int,0<=i->i<l.length->∃x,l[i.toNat]?=some x/\nth cells (off+i.toNat*1)=some (.int .i64 x)
def gl.r5{J:ai}{b:Option Addr}{n c:Nat}{l:List Int}(h:gl J (.slice b n c) l)(aS:aJ):qu aS J b l:=fun ap=>by
 obtain⟨_,_,aE⟩:=h.get;obtain⟨a,off,cells,e,a6,dK,ga⟩:=aE ap;exact⟨a,off,cells,a6,.eG dK,ga⟩
def qu.own{a:Nat}{e:TypeId}{J:ai}{l:List Int}{m:aJ}(h:(a,df.row (l.map (Value.int .i64)) e)∈m):qu m J (some ⟨a,0,none⟩) l:=fun ap=>
 ⟨a,0,_,I,.own h,fun i i0 i1=>⟨_,cU aa,avf i.toNat (cU aa)⟩⟩
def qt(J:ai)(x:dn)(cs:List Value):Prop:=∃bc bb bl bt b0 cE,cs=[.int .i64 x.k,.int .i64 x.p,.int .i64 x.i,.slice bc x.ao.length bb,.slice bl x.ws.length bt,.slice b0 x.im.length cE]/\gl J (.slice bc x.ao.length bb) x.ao/\gl J (.slice bl x.ws.length bt) x.ws/\gl J (.slice b0 x.im.length cE) x.im
def qt.mono{J ah:ai}(hle:J.le ah){x:dn}{cs:List Value}(h:qt J x cs):qt ah x cs:=by
 obtain⟨bc,bb,bl,bt,b0,cE,ae,ag,aE,a6⟩:=h;exact⟨bc,bb,bl,bt,b0,cE,ae,ag.mono hle,aE.mono hle,a6.mono hle⟩
def aid(x:Int×Int)(cs:List Value):Prop:=cs=[.int .i64 x.1,.int .i64 x.2]
structure r' (J:ai) (g:cM) (cO:Option Addr) (bu:Nat) (cy:Option Addr) (ci:Nat):Prop where
 n:dz J 96 6 (qt J) (.slice cO g.ns.length bu) g.ns
 i:dz J 37 2 aid (.slice cy g.is.length ci) g.is
def r'.mono{J ah:ai}(hle:J.le ah){g:cM}{cO cy:Option Addr}{bu ci:Nat}(h:r' J g cO bu cy ci):r' ah g cO bu cy ci:=⟨h.n.mono hle fun _ _ q=>q.mono hle,h.i.mono hle fun _ _ q=>q⟩
abbrev pn(g:cM)(cO:Option Addr)(bu:Nat)(cy:Option Addr)(ci:Nat):List Value:=[.int .i64 g.pl,.slice cO g.ns.length bu,.slice cy g.is.length ci]
abbrev Ao(g:cM)(cO:Option Addr)(bu:Nat)(cy:Option Addr)(ci:Nat):Value:=.agg (pn g cO bu cy ci).toArray
abbrev aiQ(v:Value)(J:ai):Value->aJ->ai->Prop:=fun w m' ah=>w=v/\m'=[]/\ah=J
abbrev aiR(v:Value)(J:ai):Value->aJ->ai->Prop:=fun w m' ah=>w=v/\m'=[]/\J.le ah
def Acc.Dj{e:TypeId}{sz k fT:Nat}{v:Value}{cells cells':List Value}{aS:aJ}(h:Acc e sz v k cells aS)(hk:k=fT)(ax:cells=cells'):Acc e sz v fT cells' aS:=by subst hk;subst ax;exact h
def ajx{P:Int->Bool}{l:List Int}{i:Nat}{x:Int}(U:l[((i:Nat):Int).toNat]?=some x)(h:(l.take i).any P=false)(ap:P x=false):(l.take (i+1)).any P=false:=by
 rw[ff] at U;rw[ly,U,List.any_append,h];simp[ap]
def ajw{P:Int->Bool}{l:List Int}{i:Nat}{x:Int}(U:l[((i:Nat):Int).toNat]?=some x)(ap:P x=true):l.any P=true:=by
 rw[P3];exact⟨x,dq U,ap⟩
section
variable {Q:da Tryz.prog}{g0:Nat}{J:ai}
def qZ(lo hi:Int)(n:Int):Bool:=decide (n<lo)||decide (hi<n)
def asV{eB:aJ}{b:Option Addr}{c:Nat}{l:List Int}{Im:FuncId}{cap:Array Value}{P:Int->Bool}(aj:qu eB J b l)(aA:l.length<=1000000)
 (ap:∀x,Fn (aU Q g0) Im (.int .i64 x::cap.toList) eB J (fun u m' ah=>u=.bool (P x)/\m'=eB/\J=ah)):
 Fn (aU Q g0) 164 [.slice b l.length c,.func (.func Im) #[] cap] eB J (fun u m' ah=>∃k,u=.int .i64 k/\(0<=k↔l.any P=true)/\m'=eB/\J=ah):=by
 refine Fn.b9 (b1 Tryz.func164) I I fun H=>?_;refine af 0x357c04a1ce059 ?_;refine dV [(8,.int .i64 ((0):Int)),(0,_),(1,_),(7,_)] ?_;refine bp ?_;refine' aK.bK (fun(i:Nat)=>⟨[(8,.int .i64 (i:Int))],eB,J,i<=l.length/\(l.take i).any P=false,l.length -i⟩) (0) ?hs ?bn;case hs=>exact⟨c6 _,I⟩
 case bn=>
  rintro i hinv;try simp only at hinv
  obtain⟨hi,S2⟩:=hinv;refine af 0xbe099 ?_;refine If (fun eZ=>?_) fun eZ=>?_
  ·obtain⟨a,off,cells,rfl,qR,hN⟩:=aj aa;obtain⟨x,U,hZ⟩:=hN i aa aa;refine af 0x608439c0839d5f57 ?_;refine' W.step I (Exec.val I I (j1 I I ?ar (g8 (fJ I) ?az)) ?_);case ar=>exact qR
   case az=>assumption
   refine' W.step I (Exec.call I I I I I I I (a1:=eB) (cB:=[]) (by simp) trivial (ap x) ?_);rintro v m' ah hle ⟨rfl,rfl,rfl⟩;rw[gC];refine ns ?_;refine If (fun l3=>?_) fun l3=>?_
   ·refine af 0x357c0839 ?_;refine iw ?_
    exact⟨_,I,⟨fun _=>ajw U (by simpa using l3),fun _=>by omega⟩,I,I⟩
   ·refine af 0x3011e757 ?_;refine eS (i+1) ?_;exact⟨aa,ajx U S2 (by simpa using l3)⟩
  ·refine af 0x6af816757 ?_;refine iw ?_
   refine⟨_,I,⟨fun q=>absurd q bI,fun q=>?_⟩,I,I⟩
   rw[ft aa] at S2;rw[S2] at q;cases q
def alA{eB:aJ}{b:Option Addr}{c:Nat}{l:List Int}{Im:FuncId}{cap:Array Value}{P:Int->Bool}(aj:qu eB J b l)(aA:l.length<=1000000)
 (ap:∀x,Fn (aU Q g0) Im (.int .i64 x::cap.toList) eB J (fun u m' ah=>u=.bool (P x)/\m'=eB/\J=ah)):
 Fn (aU Q g0) 161 [.slice b l.length c,.func (.func Im) #[] cap] eB J (fun u m' ah=>u=.bool (l.any P)/\m'=eB/\J=ah):=by
 refine Fn.b9 (b1 Tryz.func161) I I fun H=>?_;refine af 0x21ce059 ?_;refine' W.step I (Exec.call I I I I I I I (a1:=eB) (cB:=[]) (by simp) trivial (asV aj aA ap) ?_);rintro v m' ah hle ⟨k,rfl,hk,rfl,rfl⟩;rw[gC];refine af 0x1abe044 ?_;refine iw ?_;refine⟨dh Value.bool ?_,I,I⟩;rw[rc,Eu];exact hk
def aA0{bG cD:Nat}{lo hi x:Int}{aS:aJ}:Fn (aU Q g0) 162 [.int .i64 x,.pointer (some ⟨bG,0,none⟩),.pointer (some ⟨cD,0,none⟩)] ((cD,.row [.int .i64 hi] 3)::(bG,.row [.int .i64 lo] 3)::aS) J (fun u m' ah=>u=.bool (qZ lo hi x)/\m'=((cD,.row [.int .i64 hi] 3)::(bG,.row [.int .i64 lo] 3)::aS)/\J=ah):=by
 refine Fn.b9 (b1 Tryz.func162) I I fun H=>?_;refine af 0x9141ce059 ?_;refine eX 8 (fun jT=>?_) fun jT=>?_
 ·refine af 0xd5f0246f7b ?_;refine iw ?_;refine⟨dh Value.bool ?_,I,I⟩;rw[show qZ lo hi x=(decide (x<lo)||decide (hi<x)) from I];(rw[lm jT];rfl)
 ·refine af 0xd5f0241141 ?_;refine iw ?_;refine⟨dh Value.bool ?_,I,I⟩;rw[show qZ lo hi x=(decide (x<lo)||decide (hi<x)) from I];(rw[g5 jT];rfl)
def PJ{b:Option Addr}{c:Nat}{l:List Int}{lo hi:Int}{aS:aJ}(aj:qu aS J b l)(aA:l.length<=1000000):Fn (aU Q g0) 157 [.int .i64 lo,.int .i64 hi,.slice b l.length c] aS J (fun u m' ah=>u=.int .i64 (if l.any (qZ lo hi)=true then 2 else 0)/\m'=[]/\J=ah):=by
 refine Fn.b9 (b1 Tryz.func157) I I fun H=>?_;refine rg ?_;refine fq fun bG=>?_;refine fq fun cD=>?_;refine af 0x120e702 ?_;refine' W.step I (Exec.call I I I I I I I (a1:=(cD,.row [.int .i64 hi] 3)::(bG,.row [.int .i64 lo] 3)::aS) (cB:=[]) (by rw[gC];exact .refl _) trivial (alA (P:=qZ lo hi) (fun h=>by obtain⟨a,off,cells,ae,ag,aE⟩:=aj h;exact⟨a,off,cells,ae,ag.cons.cons,aE⟩) aA (fun x=>aA0)) ?_);rintro v m' ah hle ⟨rfl,rfl,rfl⟩;rw[gC];refine ns ?_;refine If (fun eZ=>?_) fun eZ=>?_
 ·refine af 0x1abe059 ?_;refine mP ?_
  exact⟨by rw[aP eZ];rfl,I,I⟩
 ·refine af 0x6af816757 ?_;refine mP ?_
  exact⟨by rw[aG (by simp[eZ])];rfl,I,I⟩
def LR{l:List Int}{lo hi:Int}:l.any (qZ lo hi)=true↔∃w∈l,w<lo\/hi<w:=by
 rw[P3];constructor
 ·rintro⟨w,ae,ag⟩;exact⟨w,ae,by simpa[qZ] using ag⟩
 ·rintro⟨w,ae,ag⟩;exact⟨w,ae,by simpa[qZ] using ag⟩
abbrev aAP(g:cM)(cO:Option Addr)(bu:Nat)(cy:Option Addr)(ci:Nat)(j3 j2 h1:Value):List Value:=[.int .i64 g.pl,.slice cO g.ns.length bu,.slice cy g.is.length ci,j3,j2,h1]
abbrev j4(gx:Nat)(g:cM)(cO:Option Addr)(bu:Nat)(cy:Option Addr)(ci:Nat)(j3 j2 h1:Value):Nat×df:=(gx,.row (aAP g cO bu cy ci j3 j2 h1) 156)
abbrev FW(x:dn)(bc:Option Addr)(bb:Nat)(bl:Option Addr)(bt:Nat)(b0:Option Addr)(cE:Nat):Value:=.agg #[.int .i64 x.k,.int .i64 x.p,.int .i64 x.i,.slice bc x.ao.length bb,.slice bl x.ws.length bt,.slice b0 x.im.length cE]
def akS{gx:Nat}{g:cM}{cO cy:Option Addr}{bu ci:Nat}{j3 j2 h1:Value}{x:dn}{bc bl b0:Option Addr}{bb bt cE:Nat}(ag:gl J (.slice bl x.ws.length bt) x.ws)(hk:x.k=1):
 Fn (aU Q g0) 134 [.pointer (some ⟨gx,0,none⟩),FW x bc bb bl bt b0 cE] [j4 gx g cO bu cy ci j3 j2 h1] J (fun u m' ah=>u=.int .i64 (g1 g x)/\m'=[j4 gx g cO bu cy ci j3 j2 h1]/\J=ah):=by
 refine Fn.b9 (b1 Tryz.func134) I I fun H=>?_;refine rg ?_;refine fq fun bG=>?_;refine af 0x302 ?_;refine fc [3] ?_;refine bp ?_;refine' aK.hp 0 [(39,.bool (decide ((x.p≠0\/x.i≠0\/0<x.im.length\/x.ao.length<1\/60<x.ao.length\/x.ws.length≠x.ao.length))))] ?lF ?lG;case lF=>
  refine af 0x1229ba ?_;refine eX 8 (fun jT=>?_) fun jT=>?_
  ·refine af 0xc237bdef7bd851bdef6146f7bd851bdef6146f7b ?_;exact ce
  ·refine af 0x14114d ?_;refine eX 13 (fun Iu=>?_) fun Iu=>?_
   ·refine af 0x611bdef7bdec28def7b0a37bdec28def7b ?_;exact ce
   ·refine af 0x282154d ?_;refine eX 19 (fun Is=>?_) fun Is=>?_
    ·refine af 0x1846f7bdef7b0a37bdec28def7b ?_;exact ce
    ·refine af 0x282154d ?_;refine eX 25 (fun It=>?_) fun It=>?_
     ·refine af 0x611bdef7bdec28def7b ?_;exact ce
     ·refine af 0x282154d ?_;refine eX 31 (fun aoA=>?_) fun aoA=>?_
      ·
        refine af 0x1846f7bdef7b ?_;exact ce
      ·
        refine af 0x18410aa6954d ?_;exact ce
 case lG=>
  refine bp ?_;refine If (fun yo=>?_) fun yo=>?_
  ·refine af 0x1abe059 ?_;refine'⟨.inr I,I,_,_,.tmp I .nil,.cons _ (.refl _),?_⟩
   refine⟨?_,I,I⟩
   unfold g1;rw[aP hk,aP yo];rfl
  ·refine af 0xa6e757 ?_;refine' W.step I (Exec.call I I I I I I I (a1:=[]) (cB:=[_,_]) (.refl _) trivial (PJ (ag.r5 []) aa) ?_);rintro v m' bj hle ⟨rfl,rfl,rfl⟩;refine af 0xd5f02 ?_;refine'⟨.inr I,I,_,_,.tmp I .nil,.cons _ (.refl _),?_⟩
   refine⟨?_,I,I⟩
   unfold g1;rw[aP hk,aG yo];by_cases q:x.ws.any (qZ 1 1000)=true
   ·rw[aP q,aP (LR.1 q)];rfl
   ·rw[aG q,aG (fun k=>q (LR.2 k))];rfl
def QC{lo hi n:Int}:([n].any (qZ lo hi)=true)↔(n<lo\/hi<n):=by simp[qZ]
def amY{gx:Nat}{g:cM}{cO cy:Option Addr}{bu ci:Nat}{j3 j2 h1:Value}{x:dn}{bc bl b0:Option Addr}{bb bt cE:Nat}(aE:gl J (.slice b0 x.im.length cE) x.im)(hk:x.k=3)(ap:g.pl<=4)(aN:addrEq bc bc=true)(aH:addrEq bl bl=true)(bo:addrEq b0 b0=true):
 Fn (aU Q g0) 136 [.pointer (some ⟨gx,0,none⟩),FW x bc bb bl bt b0 cE] [j4 gx g cO bu cy ci j3 j2 h1] J (fun u m' ah=>u=.int .i64 (g1 g x)/\m'=[j4 gx g cO bu cy ci j3 j2 h1]/\J=ah):=by
 refine Fn.b9 (b1 Tryz.func136) I I fun H=>?_;refine rg ?_;refine fq fun bG=>?_;refine af 0x302 ?_;refine fc [0,3] ?_;refine bp ?_;refine' aK.hp 1 [(35,.bool (decide ((x.p≠0\/x.i≠0\/0<x.ao.length\/0<x.ws.length\/(x.im.length:Int)≠g.pl))))] ?lF ?lG;case lF=>
  refine aK.H3 [] I (by kernel_rfl) (a0:=[.val 0,.val 1,.val 2,.val 3,.val 4,.val 5,.val 6,.val 7,.val 8,.val 9,.val 10,.val 11,.val 12,.val 13,.val 14,.val 15,.val 16,.val 17,.val 18,.val 19,.val 20,.val 21,.val 22,.val 23,.val 24,.val 25,.val 26,.val 27,.val 28,.val 29,.val 30]) (by kernel_rfl) ?_;refine af 0x914d ?_;refine z2 8 (fun jT=>?_) fun jT=>?_
  ·refine af 0xc237bdef7bdef6146f7bd851bdef6146f7b ?_;exact ce
  ·refine af 0x14114d ?_;refine z2 13 (fun Iu=>?_) fun Iu=>?_
   ·refine af 0x611bdef7bdef7b0a37bdec28def7b ?_;exact ce
   ·refine af 0x282154d ?_;refine z2 19 (fun Is=>?_) fun Is=>?_
    ·refine af 0x1846f7bdef7bdec28def7b ?_;exact ce
    ·refine af 0x282154d ?_;refine z2 25 (fun It=>?_) fun It=>?_
     ·refine af 0x611bdef7bdef7b ?_;exact ce
     ·refine af 0x6104535b60954d ?_;exact ce
 case lG=>
  refine bp ?_;refine If (fun wM=>?_) fun wM=>?_
  ·refine af 0x1abe059 ?_;refine'⟨.inr I,I,_,_,.tmp I .nil,.cons _ (.refl _),?_⟩
   refine⟨?_,I,I⟩
   unfold g1;rw[aG (show ¬x.k=1 by omega),aG (show ¬x.k=2 by omega),aP hk,aP wM];rfl
  ·refine af 0xa6e757 ?_;refine' W.step I (Exec.call I I I I I I I (a1:=[]) (cB:=[_,_]) (.refl _) trivial (PJ (aE.r5 []) aa) ?_);rintro v m' bj hle ⟨rfl,rfl,rfl⟩;refine af 0xd5f02 ?_;refine'⟨.inr I,I,_,_,.tmp I .nil,.cons _ (.refl _),?_⟩
   refine⟨?_,I,I⟩
   unfold g1;rw[aG (show ¬x.k=1 by omega),aG (show ¬x.k=2 by omega),aP hk,aG wM];by_cases q:x.im.any (qZ (-1000000) 1000000)=true
   ·rw[aP q,aP (LR.1 q)];rfl
   ·rw[aG q,aG (fun k=>q (LR.2 k))];rfl
def auz{gx:Nat}{g:cM}{cO cy:Option Addr}{bu ci:Nat}{j3 j2 h1:Value}{x:dn}{bc bl b0:Option Addr}{bb bt cE:Nat}(hk:x.k=2)(mX:1<=g.pl)(ap:g.pl<=4)(hi:g.is.length<=200)(k':addrEq cy cy=true):
 Fn (aU Q g0) 135 [.pointer (some ⟨gx,0,none⟩),FW x bc bb bl bt b0 cE] [j4 gx g cO bu cy ci j3 j2 h1] J (fun u m' ah=>u=.int .i64 (g1 g x)/\m'=[j4 gx g cO bu cy ci j3 j2 h1]/\J=ah):=by
 refine Fn.b9 (b1 Tryz.func135) I I fun H=>?_;refine rg ?_;refine fq fun bG=>?_;refine af 0x302 ?_;refine fc [0,3] ?_;refine bp ?_;refine' aK.hp 0 [(27,.bool (decide ((0<x.im.length\/0<x.ws.length\/x.ao.length<1\/10<x.ao.length))))] ?lF ?lG;case lF=>
  refine af 0x242a9ba ?_;refine eX 10 (fun Sh=>?_) fun Sh=>?_
  ·refine af 0x308def7b0a37bdec28def7b ?_;exact ce
  ·refine af 0x282154d ?_;refine eX 16 (fun Ir=>?_) fun Ir=>?_
   ·refine af 0xc237bdec28def7b ?_;exact ce
   ·refine af 0x282154d ?_;refine eX 22 (fun aoz=>?_) fun aoz=>?_
    ·refine af 0x308def7b ?_;exact ce
    ·refine af 0x3082154d ?_;exact ce
 case lG=>
  refine bp ?_;refine If (fun ll=>?_) fun ll=>?_
  ·refine af 0x1abe059 ?_;refine'⟨.inr I,I,_,_,.tmp I .nil,.cons _ (.refl _),?_⟩
   refine⟨?_,I,I⟩
   unfold g1;rw[aG (show ¬x.k=1 by omega),aP hk,aP ll];rfl
  ·refine af 0x5f57 ?_;refine aK.draw I (by kernel_rfl) (a0:=[.val 0,.val 1,.val 2,.val 3,.val 4,.val 5,.val 6,.val 7,.iF 8,.b6 [7,6,5,4,3,2,1,0],.bw 9,.val 10]) (by kernel_rfl) ?_;refine af 0x5346a6b6c1 ?_;refine bX.buildSlice I I I I I I (ee I) I I I fun Qv=>?_;refine bX.b6 eN ?_;refine' bX.call I I I I I I I I I I (a1:=[(Qv,_)]) (cB:=[_,_]) (.refl _) trivial (PJ (l:=[x.p]) (qu.own (.head _)) (by simp)) ?_;rintro v m' bj hle ⟨rfl,rfl,rfl⟩;refine af 0x5f040e702 ?_;refine If (fun yo=>?_) fun yo=>?_
   ·refine af 0x357c0839 ?_;refine'⟨.inr I,I,_,_,.tmp I .nil,.cons _ (.refl _),?_⟩
    refine⟨?_,I,I⟩
    unfold g1;rw[aG (show ¬x.k=1 by omega),aP hk,aG ll];by_cases q:[x.p].any (qZ 0 (g.pl -1))=true
    ·rw[aP q,aP (by rw[QC] at q;omega)];rfl
    ·rw[aG q] at yo;exact absurd I yo
   ·refine af 0x5f57 ?_;refine aK.draw I (by kernel_rfl) (a0:=[.val 0,.val 1,.val 2,.val 3,.val 4,.val 5,.val 6,.val 7,.val 8,.iF 9,.b6 [8,7,6,5,4,3,2,1,0],.bw 10,.val 11]) (by kernel_rfl) ?_;refine af 0xa68caa6b6c1 ?_;refine bX.buildSlice I I I I I I (ee I) I I I fun ai8=>?_;refine bX.b6 eN ?_;refine' bX.call I I I I I I I I I I (a1:=[(ai8,_)]) (cB:=[_,_]) (.refl _) trivial (PJ (l:=[x.i]) (qu.own (.head _)) (by simp)) ?_;rintro v m' bj hle ⟨rfl,rfl,rfl⟩;refine af 0xd5f02 ?_;refine'⟨.inr I,I,_,_,.tmp I .nil,.cons _ (.refl _),?_⟩
    refine⟨?_,I,I⟩
    unfold g1;rw[aG (show ¬x.k=1 by omega),aP hk,aG ll];by_cases q:[x.p].any (qZ 0 (g.pl -1))=true
    ·rw[aP q] at yo;exact absurd bI yo
    ·by_cases aH:[x.i].any (qZ 0 ((g.is.length:Int) -1))=true
     ·rw[aP aH,aP (by rw[QC] at aH;omega)];rfl
     ·rw[aG aH,aG (by rw[QC] at q aH;omega)];rfl
def Vt{gx:Nat}{g:cM}{cO cy:Option Addr}{bu ci:Nat}{j3 j2 h1:Value}{x:dn}{bc bl b0:Option Addr}{bb bt cE:Nat}{aam:FuncId}(aN:addrEq bc bc=true)(aH:addrEq bl bl=true)(bo:addrEq b0 b0=true)
 (E4:1<=x.k/\x.k<=3->nth ([.nilFunc,.func (.func 134) #[] #[],.func (.func 135) #[] #[],.func (.func 136) #[] #[]]:List Value) (0+x.k.toNat*1)=some (.func (.func aam) #[] #[]))
 (ay:1<=x.k/\x.k<=3->Fn (aU Q g0) aam [.pointer (some ⟨gx,0,none⟩),FW x bc bb bl bt b0 cE] [j4 gx g cO bu cy ci j3 j2 h1] J (fun u m' ah=>u=.int .i64 (g1 g x)/\m'=[j4 gx g cO bu cy ci j3 j2 h1]/\J=ah)):
 Fn (aU Q g0) 102 [.pointer (some ⟨gx,0,none⟩),FW x bc bb bl bt b0 cE] [j4 gx g cO bu cy ci j3 j2 h1] J (fun u m' ah=>u=.int .i64 (g1 g x)/\m'=[j4 gx g cO bu cy ci j3 j2 h1]/\J=ah):=by
 refine Fn.b9 (b1 Tryz.func102) I I fun H=>?_;refine rg ?_;refine fq fun bG=>?_;refine af 0x86702 ?_;refine eu fun cN=>?_;refine af 0x31c ?_;refine fc [0,3,5] ?_;refine bp ?_;refine' aK.hp 0 [(14,.bool (decide ((x.k<1\/3<x.k))))] ?u2 ?u5;case u2=>
  refine af 0x1229ba ?_;refine eX 10 (fun B3=>?_) fun B3=>?_
  ·refine af 0x1846f7b ?_;exact ce
  ·refine af 0x184114d ?_;exact ce
 case u5=>
  refine bp ?_;refine If (fun fE=>?_) fun fE=>?_
  ·refine af 0x1abe059 ?_;refine'⟨.inr I,I,_,[j4 gx g cO bu cy ci j3 j2 h1],.tmp I .nil,(by exact .cons _ (.cons _ (.refl _))),?_⟩
   refine⟨?_,I,I⟩
   unfold g1;rw[aG (show ¬x.k=1 by omega),aG (show ¬x.k=2 by omega),aG (show ¬x.k=3 by omega)];rfl
  ·have hk:1<=x.k/\x.k<=3:=aa
   refine af 0x5f57 ?_;refine aK.draw I (by kernel_rfl) (a0:=[.val 0,.val 1,.val 2,.val 3,.val 4,.val 5,.bw 6,.val 7]) (by kernel_rfl) ?_;refine af 0x554d ?_;refine' bX.val I I I I (j1 I I ?ar (g8 (fJ I) ?az)) ?_;case ar=>exact qr
   case az=>exact E4 hk
   refine af 0x161 ?_;refine' bX.call I I I I I I I I I I (a1:=[j4 gx g cO bu cy ci j3 j2 h1]) (cB:=[_,_]) (hR 2 I (hR 0 I (hR 0 I .nil))) trivial (ay hk) ?_;rintro v m' bj hle ⟨rfl,rfl,rfl⟩;refine af 0xd5f02 ?_;refine'⟨.inr I,I,_,[j4 gx g cO bu cy ci j3 j2 h1],.tmp I .nil,(by exact .cons_cons _ (kt _)),?_⟩
   exact⟨I,I,I⟩
def auZ{gx:Nat}{g:cM}{cO cy:Option Addr}{bu ci:Nat}{j3 j2 h1:Value}{x:dn}{bc bl b0:Option Addr}{bb bt cE:Nat}(ae:gl J (.slice bc x.ao.length bb) x.ao)(ag:gl J (.slice bl x.ws.length bt) x.ws)(aE:gl J (.slice b0 x.im.length cE) x.im)(mX:1<=g.pl)(ap:g.pl<=4)(hi:g.is.length<=200)(k':addrEq cy cy=true):
 Fn (aU Q g0) 102 [.pointer (some ⟨gx,0,none⟩),FW x bc bb bl bt b0 cE] [j4 gx g cO bu cy ci j3 j2 h1] J (fun u m' ah=>u=.int .i64 (g1 g x)/\m'=[j4 gx g cO bu cy ci j3 j2 h1]/\J=ah):=by
 have aN:addrEq bc bc=true:=by obtain⟨e,h⟩:=ae;exact h.addr
 have aH:addrEq bl bl=true:=by obtain⟨e,h⟩:=ag;exact h.addr
 have bo:addrEq b0 b0=true:=by obtain⟨e,h⟩:=aE;exact h.addr
 by_cases aX:x.k=1
 ·exact Vt aN aH bo (fun _=>by rw[aX];rfl) (fun _=>akS ag aX)
 by_cases aT:x.k=2
 ·exact Vt aN aH bo (fun _=>by rw[aT];rfl) (fun _=>auz aT mX ap hi k')
 ·exact Vt aN aH bo (fun _=>by rw[show x.k=3 by omega];rfl) (fun _=>amY aE aa ap aN aH bo)
def Ad(rec:Nat->Option (Nat×List iv))(c:Int)(r:List Int)(n:Nat):hc rec (c::r) n=if c≠(n:Int) then none else match rec n with
 |none=>none
 |some (bH,es)=>match hc rec r bH with
  |none=>none
  |some (c2,u9)=>some (c2,es++u9):=rfl
def Zh(rec:Nat->Option (Nat×List iv)):∀(a b:List Int) (n:Nat),hc rec (a++b) n=match hc rec a n with
 |none=>none
 |some (bH,aF)=>match hc rec b bH with
  |none=>none
  |some (c2,aV)=>some (c2,aF++aV):=by
 intro a;induction a with
 |nil=>
  intro b n;show hc rec b n=_;cases h:hc rec b n with
  |none=>simp[hc,h]
  |some p=>simp[hc,h]
 |cons c a aC=>
  intro b n;show hc rec (c::(a++b)) n=_;rw[Ad,Ad];by_cases ax:c≠(n:Int)
  ·rw[aP ax,aP ax]
  ·rw[aG ax,aG ax];cases ar:rec n with
   |none=>rfl
   |some p=>
    obtain⟨bH,aF⟩:=p;simp only
    rw[aC b bH];cases aI:hc rec a bH with
    |none=>rfl
    |some q=>
     obtain⟨c2,aV⟩:=q;simp only
     cases ak:hc rec b c2 with
     |none=>rfl
     |some r=>obtain⟨fb,cj⟩:=r;simp
def akR(rec:Nat->Option (Nat×List iv))(c:Int)(n:Nat):hc rec [c] n=if c≠(n:Int) then none else rec n:=by
 rw[Ad];split
 ·rfl
 ·cases h:rec n with
  |none=>rfl
  |some p=>obtain⟨bH,aF⟩:=p;simp[hc]
def Rb{rec:Nat->Option (Nat×List iv)}{cs:List Int}{n k:Nat}{c:Int}{cur:Nat}{es:List iv}(h:hc rec (cs.take k) n=some (cur,es))(ax:cs[k]?=some c):
 hc rec (cs.take (k+1)) n=if c≠(cur:Int) then none else match rec cur with
  |none=>none
  |some (bH,aF)=>some (bH,es++aF):=by
 rw[ly,ax];show hc rec (cs.take k++[c]) n=_;rw[Zh,h];simp only[akR];by_cases q:c≠(cur:Int)
 ·rw[aP q,aP q]
 ·rw[aG q,aG q]
def Zi{rec:Nat->Option (Nat×List iv)}{cs:List Int}{n k:Nat}(h:hc rec (cs.take k) n=none):hc rec cs n=none:=by
 have:=Zh rec (cs.take k) (cs.drop k) n;rw[Lu,h] at this;exact this
def Ej{ns:List dn}{rec:Nat->Option (Nat×List iv)}(ar:∀n bH e,rec n=some (bH,e)->n<bH/\bH<=ns.length/\e.length=bH -n):∀{cs:List Int} {n bH:Nat} {e:List iv},hc rec cs n=some (bH,e)->n<=ns.length->n<=bH/\bH<=ns.length/\e.length=bH -n:=by
 intro cs;induction cs with
 |nil=>intro n bH e h aA;simp only[hc,cb,c8] at h;obtain⟨rfl,rfl⟩:=h;exact⟨b2 _,aA,by simp⟩
 |cons c cs aC=>
  intro n bH e h aA;rw[Ad] at h;split at h
  ·cases h
  ·split at h
   ·cases h
   ·rename_i c2 aV ag;obtain⟨ba,br,bG⟩:=ar _ _ _ ag;split at h
    ·cases h
    ·rename_i fb cj aE;simp only[cb,c8] at h;obtain⟨rfl,rfl⟩:=h;obtain⟨bc,bl,b0⟩:=aC aE br;exact⟨aa,bl,by rw[dv];omega⟩
def uz{ns:List dn}:∀(f:Nat) (p d:Int) (n bH:Nat) (e:List iv),gq ns f p d n=some (bH,e)->n<bH/\bH<=ns.length/\e.length=bH -n:=by
 intro f;induction f with
 |zero=>intro p d n bH e h;cases h
 |succ f aC=>
  intro p d n bH e h;unfold gq at h;split at h
  ·cases h
  ·rename_i x U;have cI:=(dO.1 U).1;split at h
   ·cases h
   ·rename_i c2 es ag;simp only[cb,c8] at h;obtain⟨rfl,rfl⟩:=h;obtain⟨bc,bl,b0⟩:=Ej (fun a b c q=>aC _ _ a b c q) ag aa;exact⟨aa,bl,by rw[ks];omega⟩
def kO(L:List Int)(a:Nat)(vs:List Int):List Int:=L.take a++vs++L.drop (a+vs.length)
def C8{L:List Int}{a:Nat}{vs:List Int}(h:a+vs.length<=L.length):(kO L a vs).length=L.length:=by
 unfold kO;simp only[dv,eL,jO];omega
def aw6(L:List Int)(a:Nat):kO L a []=L:=by simp[kO]
def VZ{L:List Int}{a b:Nat}{vs ws:List Int}(h:a+vs.length<=L.length)(ak:b=a+vs.length):kO (kO L a vs) b ws=kO L a (vs++ws):=by
 subst ak;unfold kO;have ae:(L.take a++vs).length=a+vs.length:=by rw[dv,eL];omega
 rw[aiv aa,ft aa,List.drop_append,wk aa,ae,nL,zU,dv,<-j6];congr 2
 omega
def af6{L:List Int}{a:Nat}{x:Int}(h:a<L.length):L.set a x=kO L a [x]:=by
 rw[XZ,aP h];simp[kO]
def ae8{L:List Int}{a:Nat}{vs:List Int}(h:a+vs.length<=L.length)(i:Nat):(kO L a vs)[i]?=if a<=i/\i<a+vs.length then vs[i -a]? else L[i]?:=by
 unfold kO;have ag:(L.take a).length=a:=by rw[eL];omega
 by_cases aN:i<a
 ·rw[aG aa,j6,sg aa,iY,aP aN]
 ·by_cases aH:i<a+vs.length
  ·rw[aP aa,j6,rf aa,ag,sg aa]
  ·rw[aG aa,j6,rf aa,ag,rf aa,n2];congr 1;omega
def aw7{L:List Int}{a:Nat}{x:Int}{vs:List Int}(h:a+1+vs.length<=L.length):(kO L (a+1) vs).set a x=kO L a (x::vs):=by
 apply pK
 intro i;rw[qp,ae8 h,C8 h,ae8 (by rw[ks];omega),ks];by_cases q:a=i
 ·subst q;rw[aP I,aP aa,aP aa,pL];rfl
 ·rw[aG q];by_cases aH:a+1<=i/\i<a+1+vs.length
  ·rw[aP aH,aP aa,show i -a=(i -(a+1))+1 by omega,Ln]
  ·rw[aG aH,aG aa]
def dz.tail{α:Type}{J:ai}{e:TypeId}{sz a:Nat}{R:α->List Value->Prop}{w:Value}{xs:List α}{cs:List Value}(aI:a<xs.length)
 (hw:fg J e sz w (((xs.drop a).length:Int) -1).toNat ((cs.drop ((1:Int).toNat*sz)).take ((((xs.drop a).length:Int) -1).toNat*sz)))
 (dU:∀i x,(xs.drop a)[i]?=some x->R x ((cs.drop (i*sz)).take sz)):∃b c,w=.slice b (xs.drop (a+1)).length c/\dz J e sz R (.slice b (xs.drop (a+1)).length c) (xs.drop (a+1)):=by
 have aF:(((xs.drop a).length:Int) -1).toNat=(xs.drop (a+1)).length:=by rw[jO,jO];omega
 rw[aF] at hw;obtain⟨b,c,rfl,_⟩:=hw.inv;refine⟨b,c,I,⟨_,hw,fun i x U=>?_⟩⟩;have hi:i<(xs.drop (a+1)).length:=(dO.1 U).1;have ag:=dU (i+1) x (by rw[n2] at U ⊢;rw[<-U];congr 1;omega);have hle:i*sz+sz<=(xs.drop (a+1)).length*sz:=by rw[<-nf];exact hJ _ hi
 rw[DR,zU,qq,gv aa,show(1:Int).toNat*sz+i*sz=(i+1)*sz by rw[g',show(1:Int).toNat=1 from I];omega];exact ag
def agS{ns:List dn}{f a:Nat}{p8 d:Int}{x:dn}(U:ns[a]?=some x)(h:hc (gq ns f a (d+1)) x.ao (a+1)=none):gq ns (f+1) p8 d a=none:=by
 unfold gq;rw[U];simp only;rw[h]
def azS{ns:List dn}{f a n:Nat}{p8 d:Int}{x:dn}{es:List iv}(U:ns[a]?=some x)(h:hc (gq ns f a (d+1)) x.ao (a+1)=some (n,es)):gq ns (f+1) p8 d a=some (n,(p8,d,(n:Int) -1)::es):=by
 unfold gq;rw[U];simp only;rw[h]
abbrev Wr(a n:Nat):Value:=.slice (some ⟨a,0,none⟩) n n
abbrev zb(a:Nat)(L:List Int):Nat×df:=(a,.row (L.map (Value.int .i64)) 3)
abbrev Gw(gx b5 ad dg:Nat)(g:cM)(cO:Option Addr)(bu:Nat)(cy:Option Addr)(ci:Nat)(P D L:List Int):aJ:=[j4 gx g cO bu cy ci (Wr b5 g.ns.length) (Wr ad g.ns.length) (Wr dg g.ns.length),zb b5 P,zb ad D,zb dg L]
def ai3(gx b5 ad dg:Nat)(g:cM)(cO:Option Addr)(bu:Nat)(cy:Option Addr)(ci:Nat)(a:Nat)(P D L:List Int)(r:Option (Nat×List iv))(J:ai):Value->aJ->ai->Prop:=fun u m' ah=>∃b n c ok D4 DF bM,u=.tuple #[.slice b n c,.bool ok]/\m'=Gw gx b5 ad dg g cO bu cy ci D4 DF bM/\J=ah/\D4.length=g.ns.length/\DF.length=g.ns.length/\bM.length=g.ns.length/\
 (match r with
 |none=>ok=false
 |some (bH,es)=>ok=true/\D4=kO P a (es.map fun e=>e.1)/\DF=kO D a (es.map fun e=>e.2.1)/\bM=kO L a (es.map fun e=>e.2.2)/\n=(g.ns.drop bH).length/\dz J 96 6 (qt J) (.slice b (g.ns.drop bH).length c) (g.ns.drop bH))
def aAQ{g:cM}{cO cy:Option Addr}{bu ci:Nat}{gx b5 ad dg:Nat}(aB:r' J g cO bu cy ci)(c2:g.ns.length<=2000)(aj:∀x∈g.ns,x.ao.length<=60):∀(f a:Nat) (p8 d:Int) (P D L:List Int) (bv:Option Addr) (i':Nat),a<=g.ns.length->g.ns.length<a+f->P.length=g.ns.length->D.length=g.ns.length->L.length=g.ns.length->0<=d->d<=a->
 dz J 96 6 (qt J) (.slice bv (g.ns.drop a).length i') (g.ns.drop a)->
 Fn (aU Q g0) 103 [.pointer (some ⟨gx,0,none⟩),.int .i64 p8,.int .i64 d,.slice bv (g.ns.drop a).length i'] (Gw gx b5 ad dg g cO bu cy ci P D L) J (ai3 gx b5 ad dg g cO bu cy ci a P D L (gq g.ns f p8 d a) J):=by
 intro f;induction f with
 |zero=>intro a p8 d P D L bv i' ae ag;omega
 |succ f aC=>
 intro a p8 d P D L bv i' aI ay cZ dS bi h6 aDL np;have sS:(g.ns.drop a).length=g.ns.length -a:=jO;have zw:addrEq cy cy=true:=aB.i.addr;have C9:addrEq cO cO=true:=aB.n.addr;refine Fn.b9 (b1 Tryz.func103) I I fun H=>?_;refine af 0x2f821439c0859 ?_;refine If (fun ru=>?_) fun ru=>?_
 ·refine af 0x357c0859 ?_;refine iw ?_
  exact⟨_,_,_,_,P,D,L,I,I,I,cZ,dS,bi,by rw[show gq g.ns (f+1) p8 d a=none by unfold gq;rw[jq aa]]⟩
 ·have cI:a<g.ns.length:=aa
  obtain⟨_,eg⟩:=np.at;obtain⟨iZ,off,cells,bA,rfl,gX,hN⟩:=eg aa;obtain⟨x,cs,U,iI,oa,dU⟩:=hN 0 aa aa;obtain⟨bc,bb,bl,bt,b0,cE,rfl,iS,oX,oY⟩:=dU;have tN:=oa 3 _ bI I;have NK:g.ns[a]?=some x:=by simpa using U
  have aEC:=aj x (dq NK);obtain⟨ky,mZ,apj⟩:=np.ex;have Ua:=iS.r5 [];refine lu ?_;refine fc [0,1,2,3] ?_;refine bp ?_;refine' aK.hp 0 [(10,.int .i64 (a:Int))] ?alH ?amC;case alH=>
   refine af 0xc08650954d6d83a ?_;exact ce
  case amC=>
   refine bp ?_;refine aK.draw I (by kernel_rfl) (a0:=[.val 0,.val 1,.val 2,.val 3,.val 4,.val 5,.val 6,.val 7,.val 8,.val 9,.val 10,.val 11,.val 12,.bw 13,.val 14,.b6 [11,9],.bw 15]) (by kernel_rfl) ?_;refine af 0x60842a6d821536c1 ?_;refine' bX.nP I I (uE I I I I (o6 I) I I I ?ae ?hs ?ap ?_);case ap=>repeat first|exact .head _ _ _ _|apply fY.tail|apply fY.app
   case hs=>exact Pl a aa
   case ae=>rfl
   refine af 0x3a6 ?_;refine' bX.nP I I (uE I I I I (o6 I) I I I ?ae ?hs ?ap ?_);case ap=>repeat first|exact .head _ _ _ _|apply fY.tail|apply fY.app
   case hs=>exact Pl a aa
   case ae=>rfl
   refine af 0x738 ?_;refine' W.step I (.of (Xd I I I I (ee I) ?az ?hk I I ?aQ ?ae ?ag fun aGd ass=>?_));case az=>assumption
   case hk=>exact cJ
   case aQ=>exact cJ
   case ae=>exact cJ
   case ag=>exact cJ
   obtain⟨pi,pj,rfl,aqo⟩:=dz.tail cI ass apj;refine af 0x1abe025534c1ce042 ?_;refine dV [(11,.slice (pi) (g.ns.drop (a+1)).length (pj)),(48,.int .i64 ((0):Int)),(0,_),(2,_),(10,_),(46,_),(47,_)] ?_;refine bp ?_;refine' aK.bK (fun(b8:Nat×Nat×(List iv)×(Option Addr)×Nat×(List Int)×(List Int)×(List Int))=>match b8 with|(k,cur,es,L3,gV,wA,wa,gU)=>⟨[(11,.slice L3 (g.ns.drop cur).length gV),(48,.int .i64 (k:Int))],Gw gx b5 ad dg g cO bu cy ci wA wa gU,J,k<=x.ao.length/\hc (gq g.ns f a (d+1)) (x.ao.take k) (a+1)=some (cur,es)/\dz J 96 6 (qt J) (.slice L3 (g.ns.drop cur).length gV) (g.ns.drop cur)/\wA=kO P a (p8::es.map fun e=>e.1)/\wa=kO D a (d::es.map fun e=>e.2.1)/\gU=kO L (a+1) (es.map fun e=>e.2.2),x.ao.length -k⟩) ⟨0,a+1,[],pi,pj,P.set a p8,D.set a d,L⟩ ?hs ?bn
   case hs=>exact⟨c6 _,I,aqo,af6 aa,af6 aa,(aw6 _ _).symm⟩
   case bn=>
    rintro⟨k,cur,es,L3,gV,wA,wa,gU⟩ hinv;try simp only at hinv
    obtain⟨hk,pp,abC,sC,MP,vh⟩:=hinv;refine af 0xbe099 ?_;refine If (fun HF=>?_) fun HF=>?_
    ·obtain⟨cD,aFd,aCr,rfl,qR,aqB⟩:=Ua aa;obtain⟨PM,asA,hZ⟩:=aqB k aa aa;have UF:x.ao[k]?=some PM:=by simpa using asA
     obtain⟨w8,hM,qJ⟩:=Ej (fun p q r s=>uz _ _ _ p q r s) pp aa;have E9:(g.ns.drop cur).length=g.ns.length -cur:=jO;have M0:wA.length=g.ns.length:=by rw[sC,C8 (by simp;omega)];exact cZ
     have MQ:wa.length=g.ns.length:=by rw[MP,C8 (by simp;omega)];exact dS
     have MV:gU.length=g.ns.length:=by rw[vh,C8 (by simp;omega)];exact bi
     refine af 0xd9d5f57 ?_;refine' W.step I (Exec.val I I (j1 I I ?ar (g8 (fJ I) ?az)) ?_);case ar=>exact qR.sub (fun _ q=>by cases q)
     case az=>assumption
     refine af 0xbe083284aa6b6c10e702 ?_;refine If (fun akj=>?_) fun akj=>?_
     ·refine af 0x357c0859 ?_;refine iw ?_
      exact⟨_,_,_,_,wA,wa,gU,I,I,I,M0,MQ,MV,by rw[agS NK (Zi (k:=k+1) (by rw[Rb pp UF,aP aa]))]⟩
     ·refine af 0x8c210e757 ?_;refine' W.step I (Exec.call I I I I I I I (a1:=Gw gx b5 ad dg g cO bu cy ci wA wa gU) (cB:=[]) (.refl _) trivial (aC cur a (d+1) wA wa gU L3 gV hM aa M0 MQ MV aa aa abC) ?_);rintro v m' ah hle ⟨b',kM,c',ok,LB,lX,h3,rfl,rfl,rfl,tG,B5,IQ,hm⟩;refine af 0x5f110e70211ce1 ?_;refine If (fun u1=>?_) fun u1=>?_
      ·refine af 0x357c0859 ?_;refine iw ?_
       exact⟨_,_,_,_,LB,lX,h3,I,I,I,tG,B5,IQ,by
        have:gq g.ns f a (d+1) cur=none:=by
          cases oW:gq g.ns f a (d+1) cur with
          |none=>rfl
          |some p=>obtain⟨bH,aF⟩:=p;rw[oW] at hm;rw[hm.1] at u1;cases u1
        rw[agS NK (Zi (k:=k+1) (by rw[Rb pp UF,this];split<;>rfl))]⟩
      ·obtain⟨bH,aF,oW,vi,aoX,B9,rfl,aqn⟩:∃bH aF,gq g.ns f a (d+1) cur=some (bH,aF)/\LB=kO wA cur (aF.map fun e=>e.1)/\lX=kO wa cur (aF.map fun e=>e.2.1)/\h3=kO gU cur (aF.map fun e=>e.2.2)/\kM=(g.ns.drop bH).length/\dz J 96 6 (qt J) (.slice b' (g.ns.drop bH).length c') (g.ns.drop bH):=by
        cases oW:gq g.ns f a (d+1) cur with
        |none=>rw[oW] at hm;rw[hm] at u1;cases u1
        |some p=>obtain⟨bH,aF⟩:=p;rw[oW] at hm;exact⟨bH,aF,I,hm.2⟩
       subst vi;subst aoX;subst B9;refine af 0x3011e757 ?_;refine eS ⟨k+1,bH,es++aF,b',c',_,_,_⟩ ?_;refine⟨aa,by rw[Rb pp UF,aG aa,oW],aqn,?_,?_,?_⟩;(rw[sC,VZ (by simp;omega) (by simp;omega)];simp);(rw[MP,VZ (by simp;omega) (by simp;omega)];simp);(rw[vh,VZ (by simp;omega) (by simp;omega)];simp)
    ·obtain⟨w8,hM,qJ⟩:=Ej (fun p q r s=>uz _ _ _ p q r s) pp aa;have E9:(g.ns.drop cur).length=g.ns.length -cur:=jO;have M0:wA.length=g.ns.length:=by rw[sC,C8 (by simp;omega)];exact cZ
     have MQ:wa.length=g.ns.length:=by rw[MP,C8 (by simp;omega)];exact dS
     have MV:gU.length=g.ns.length:=by rw[vh,C8 (by simp;omega)];exact bi
     refine af 0x5f57 ?_;refine aK.draw I (by kernel_rfl) (a0:=[.val 0,.val 1,.val 2,.val 3,.val 4,.val 5,.val 6,.val 7,.val 8,.val 9,.val 10,.val 11,.val 12,.val 13,.val 14,.val 15,.bw 16]) (by kernel_rfl) ?_;refine af 0x30c650954d6d821536c1 ?_;refine' bX.nP I I (uE I I I I (o6 I) I I I ?ae ?hs ?ap ?_);case ap=>repeat first|exact .head _ _ _ _|apply fY.tail|apply fY.app
     case hs=>exact Pl a aa
     case ae=>rfl
     refine af 0xd5f0210738 ?_;refine iw ?_
     refine⟨_,_,_,_,wA,wa,_,I,I,I,M0,MQ,?_,?_⟩
     rw[hy];exact MV;rw[ft aa] at pp;rw[azS NK pp];refine⟨I,sC,MP,?_,I,abC⟩;rw[vh,aw7 (by simp;omega),tp];congr 2;show _=(cur:Int) -1;omega
end
def xn(v:Int):List Int->Nat->Int
 |[],_=>-1
 |x::r,n=>if v=x then(n:Int) else xn v r (n+1)
def acP{v:Int}{l:List Int}{i:Nat}{x:Int}(U:l[i]?=some x):xn v (l.drop i) i=if v=x then(i:Int) else xn v (l.drop (i+1)) (i+1):=by
 have hi:i<l.length:=(dO.1 U).1;rw[tn hi];have:l[i]=x:=by rw[cU hi] at U;injection U
 rw[this];rfl
def asQ{v:Int}{l:List Int}{i:Nat}(h:l.length<=i):xn v (l.drop i) i=-1:=by rw[to h];rfl
def asR{v:Int}:∀{l:List Int} {n:Nat},0<=xn v l n↔v∈l:=by
 intro l;induction l with
 |nil=>intro n;simp[xn]
 |cons x r aC=>
  intro n;unfold xn;split
  ·rename_i h;subst h;simp
  ·rename_i h;rw[aC,fs];exact⟨.inr,fun q=>q.resolve_left h⟩
def zi:List Int->Int
 |[]=>0
 |x::r=>r.foldl max x
def aug{l:List Int}{i:Nat}{x:Int}(ae:1<=i)(U:l[i]?=some x):zi (l.take (i+1))=max (zi (l.take i)) x:=by
 rw[ly,U];cases l with
 |nil=>cases U
 |cons y r=>
  cases i with
  |zero=>omega
  |succ i=>simp[zi]
def PV(l:List Int):Prop:=∀i x y,l[i]?=some x->l[i+1]?=some y->¬y<x
def ZB{es:List iv}(h:∃e r,es=e::r/\e.2.1=0):yu es=zi (es.map fun e=>e.2.1):=by
 obtain⟨e,r,rfl,aQ⟩:=h;unfold yu;simp only[P5,tp,zi,aQ];rw[List.foldl_map];rfl
def agR{ns:List dn}{f:Nat}{p d:Int}{a n:Nat}{es:List iv}(h:gq ns f p d a=some (n,es)):∃e r,es=e::r/\e.1=p/\e.2.1=d/\e.2.2=(n:Int) -1:=by
 cases f with
 |zero=>cases h
 |succ f=>
  unfold gq at h;split at h
  ·cases h
  ·split at h
   ·cases h
   ·simp only[cb,c8] at h;obtain⟨rfl,rfl⟩:=h;exact⟨_,_,I,I,I,I⟩
def nR(g:cM)(i:Nat):List Int:=(List.range g.is.length).map fun(j:Nat)=>sL (ls (j:Int) i (g.ns.drop i))+1
def vb{g:cM}{i:Nat}:(nR g i).length=g.is.length:=by simp[nR]
def yC{g:cM}{i j:Nat}(h:j<g.is.length):(nR g i)[j]?=some (sL (ls (j:Int) i (g.ns.drop i))+1):=by
 unfold nR;rw[h',GS h];rfl
def anM{g:cM}{i:Nat}(h:g.ns.length<=i):nR g i=List.replicate g.is.length 0:=by
 apply pK
 intro j;by_cases aW:j<g.is.length
 ·rw[yC aW,to h,GU,aP aW];rfl
 ·rw[jq (by rw[vb];omega),GU,aG aW]
def af3{g:cM}{j:Int}{i:Nat}{x:dn}(U:g.ns[i]?=some x):ls j i (g.ns.drop i)=if x.k=2/\x.i=j then(i:Int)::ls j (i+1) (g.ns.drop (i+1)) else ls j (i+1) (g.ns.drop (i+1)):=by
 have hi:i<g.ns.length:=(dO.1 U).1;rw[tn hi];have:g.ns[i]=x:=by rw[cU hi] at U;injection U
 rw[this];rfl
def anN{g:cM}{i:Nat}{x:dn}(U:g.ns[i]?=some x)(hk:x.k≠2):nR g i=nR g (i+1):=by
 unfold nR;congr 1
 funext j
 rw[af3 U,aG (fun q=>hk q.1)]
def anO{g:cM}{i:Nat}{x:dn}(U:g.ns[i]?=some x)(hk:x.k=2)(aQ:0<=x.i)(ae:x.i<g.is.length):nR g i=(nR g (i+1)).set x.i.toNat ((i:Int)+1):=by
 apply pK
 intro j;rw[qp,vb];by_cases aW:j<g.is.length
 ·rw[yC aW,yC aW,af3 U];by_cases q:x.i.toNat=j
  ·rw[aP ⟨hk,aa⟩,aP q,aP aa];rfl
  ·rw[aG (fun r=>q aa),aG q]
 ·rw[jq (by rw[vb];omega),jq (by rw[vb];omega),aG aa]
def Gk (g:cM):Int:=
 if ∃x∈g.ns,x.k=2/\g.is[x.i.toNat]?≠some (x.p,(x.ao.length:Int)) then 10
 else if ∃s∈q7 g,s=[] then 18
 else if ∃(i:Nat) (s t:List Int),(q7 g)[i]?=some s/\(q7 g)[i+1]?=some t/\sL t<sL s then 9
 else 0
def A9{g:cM}{j:Nat}(h:j<g.is.length):(q7 g)[j]?=some (ls (j:Int) 0 g.ns):=by
 unfold q7;rw[h',GS h];rfl
def Wm{g:cM}:(q7 g).length=g.is.length:=by simp[q7]
def af4{i:Int}:∀{l:List dn} {j:Nat} {y:Int},y∈ls i j l->(j:Int)<=y:=by
 intro l;induction l with
 |nil=>intro j y h;cases h
 |cons x r aC=>
  intro j y h;unfold ls at h;split at h
  ·rcases fs.1 h with q|q
   ·omega
   ·have:=aC q;omega
  ·have:=aC h;omega
def aby{i:Int}{j:Nat}{l:List dn}:sL (ls i j l)+1=0↔ls i j l=[]:=by
 constructor
 ·intro h;cases hs:ls i j l with
  |nil=>rfl
  |cons y r=>rw[hs] at h;have:=af4 (i:=i) (j:=j) (l:=l) (y:=y) (by rw[hs];exact .head _);simp only[sL] at h;omega
 ·intro h;rw[h];rfl
def Wn{g:cM}:(∃s∈q7 g,s=[])↔(0:Int)∈nR g 0:=by
 constructor
 ·rintro⟨s,hs,rfl⟩;obtain⟨j,aW⟩:=nK.1 hs;have aj:j<g.is.length:=by have:=(dO.1 aW).1;rwa [Wm] at this
  rw[A9 aj] at aW;injection aW with aW
  have:=yC (g:=g) (i:=0) aj;rw[iD,aby.2 aW] at this;exact dq this
 ·intro h;obtain⟨j,aW⟩:=nK.1 h;have aj:j<g.is.length:=by have:=(dO.1 aW).1;rwa [vb] at this
  rw[yC aj,iD] at aW;injection aW with aW
  exact⟨_,dq (A9 aj),aby.1 aW⟩
def af8{g:cM}:(∃(i:Nat) (s t:List Int),(q7 g)[i]?=some s/\(q7 g)[i+1]?=some t/\sL t<sL s)↔¬PV (nR g 0):=by
 constructor
 ·rintro⟨i,s,t,ae,ag,aE⟩ h;have aj:i+1<g.is.length:=by have:=(dO.1 ag).1;rwa [Wm] at this
  rw[A9 aa] at ae;rw[A9 aj] at ag;injection ae with ae;injection ag with ag
  refine h i _ _ (yC aa) (yC aj) ?_;rw[iD,ae,ag];omega
 ·intro h;refine ox fun q=>h fun i x y U an cI=>q ?_;have aj:i+1<g.is.length:=by have:=(dO.1 an).1;rwa [vb] at this
  rw[yC aa,iD] at U;rw[yC aj,iD] at an;injection U with U;injection an with an
  exact⟨i,_,_,A9 aa,A9 aj,aa⟩
open Classical in
noncomputable instance (l:List Int):Decidable (PV l):=inferInstance
section
variable {Q:da Tryz.prog}{g0:Nat}{J:ai}
def asW{eB:aJ}{b:Option Addr}{c:Nat}{l:List Int}{v:Int}(aj:qu eB J b l)(aA:l.length<=1000000):
 Fn (aU Q g0) 158 [.slice b l.length c,.int .i64 v] eB J (fun u m' ah=>u=.int .i64 (xn v l 0)/\m'=eB/\J=ah):=by
 refine Fn.b9 (b1 Tryz.func158) I I fun H=>?_;refine af 0x357c04a1ce059 ?_;refine dV [(8,.int .i64 ((0):Int)),(0,_),(1,_),(7,_)] ?_;refine bp ?_;refine' aK.bK (fun(i:Nat)=>⟨[(8,.int .i64 (i:Int))],eB,J,i<=l.length/\xn v l 0=xn v (l.drop i) i,l.length -i⟩) (0) ?hs ?bn;case hs=>exact⟨c6 _,I⟩
 case bn=>
  rintro i hinv;try simp only at hinv
  obtain⟨hi,E8⟩:=hinv;refine af 0xbe099 ?_;refine If (fun eZ=>?_) fun eZ=>?_
  ·obtain⟨a,off,cells,rfl,qR,hN⟩:=aj aa;obtain⟨x,U,hZ⟩:=hN i aa aa;have gd:l[i]?=some x:=by simpa using U
   refine af 0x608439c0839d5f57 ?_;refine' W.step I (Exec.val I I (j1 I I ?ar (g8 (fJ I) ?az)) ?_);case ar=>exact qR
   case az=>assumption
   refine af 0x5f04 ?_;refine If (fun l3=>?_) fun l3=>?_
   ·refine af 0x357c0839 ?_;refine iw ?_
    exact⟨by rw[E8,acP gd,aP (by simpa using l3)];rfl,I,I⟩
   ·refine af 0x3011e757 ?_;refine eS (i+1) ?_;exact⟨aa,by rw[E8,acP gd,aG (by simpa using l3)]⟩
  ·refine af 0x6af816757 ?_;refine iw ?_
   exact⟨by rw[E8,asQ aa];rfl,I,I⟩
def alB{eB:aJ}{b:Option Addr}{c:Nat}{l:List Int}{v:Int}(aj:qu eB J b l)(aA:l.length<=1000000):
 Fn (aU Q g0) 137 [.slice b l.length c,.int .i64 v] eB J (fun u m' ah=>u=.bool (decide (v∈l))/\m'=eB/\J=ah):=by
 refine Fn.b9 (b1 Tryz.func137) I I fun H=>?_;refine af 0x21ce059 ?_;refine' W.step I (Exec.call I I I I I I I (a1:=eB) (cB:=[]) (by simp) trivial (asW aj aA) ?_);rintro v m' ah hle ⟨rfl,rfl,rfl⟩;rw[gC];refine af 0x1abe044 ?_;refine iw ?_;refine⟨dh Value.bool ?_,I,I⟩;rw[rc,Eu,Eu];exact asR
def auh{eB:aJ}{b:Option Addr}{c:Nat}{l:List Int}(aj:qu eB J b l)(aA:l.length<=1000000)(ae:1<=l.length):
 Fn (aU Q g0) 104 [.slice b l.length c] eB J (fun u m' ah=>u=.int .i64 (zi l)/\m'=eB/\J=ah):=by
 obtain⟨a,off,cells,rfl,qR,hN⟩:=aj aa;obtain⟨hT,fl,arj⟩:=hN 0 aa aa;refine Fn.b9 (b1 Tryz.func104) I I fun H=>?_;refine af 0x17c10a1ce059 ?_;refine If (fun eY=>?_) fun eY=>?_
 ·exfalso;omega
 ·have Cq:zi (l.take 1)=hT:=by
   cases l with
   |nil=>cases fl
   |cons y r=>simp at fl;subst fl;rfl
  refine af 0x60e757 ?_;refine' W.step I (Exec.val I I (j1 I I ?ar (g8 (fJ I) ?az)) ?_);case ar=>exact qR
  case az=>assumption
  refine af 0x6af816702 ?_;refine dV [(3,.int .i64 (zi (l.take (1)))),(4,.int .i64 ((1):Int)),(0,_)] ?_;refine bp ?_;refine' aK.bK (fun(i:Nat)=>⟨[(3,.int .i64 (zi (l.take i))),(4,.int .i64 (i:Int))],eB,J,1<=i/\i<=l.length,l.length -i⟩) (1) ?hs ?bn;case hs=>exact⟨b2 _,aa⟩
  case bn=>
   rintro i hinv;try simp only at hinv
   obtain⟨aqP,hi⟩:=hinv;refine af 0x5f0428439 ?_;refine If (fun gh=>?_) fun gh=>?_
   ·obtain⟨x,U,hZ⟩:=hN i aa aa;have gd:l[i]?=some x:=by simpa using U
    have xg:=aug aqP gd;refine af 0x608439d5f57 ?_;refine' W.step I (Exec.val I I (j1 I I ?ar (g8 (fJ I) ?az)) ?_);case ar=>exact qR
    case az=>assumption
    refine' W.step I (Exec.val I I (Bk I I I I I) ?_);refine af 0x60430e702 ?_;refine eS (i+1) ?_;exact⟨aa,aa⟩
   ·refine af 0xd5f020e757 ?_;refine iw ?_;exact⟨by rw[ft aa];rfl,I,I⟩
def as5{eB:aJ}{a:Int}:Fn (aU Q g0) 163 [.int .i64 a] eB J (fun u m' ah=>u=.bool false/\m'=eB/\J=ah):=by
 refine Fn.b9 (b1 Tryz.func163) I I fun H=>?_;refine af 0x6af811021ce059 ?_;refine iw ?_;exact⟨by simp[p6],I,I⟩
def atB{a b:Int}:Fn (aU Q g0) 159 [.int .i64 a,.int .i64 b] [] J (fun u m' ah=>u=.bool (decide (a<b))/\m'=[]/\J=ah):=by
 refine Fn.b9 (b1 Tryz.func159) I I fun H=>?_;refine af 0x1ce059 ?_;refine cl (G:=as5 (eB:=[])) (h:=?_);rintro v m' ah hle ⟨rfl,rfl,rfl⟩;refine hA V.eC ?_;refine eX 7 (fun MJ=>?_) fun MJ=>?_
 ·exfalso;cases MJ
 ·refine af 0x1abe0482042146ffb ?_;refine mP ?_;refine⟨dh Value.bool ?_,I,I⟩;rfl
def as7{eB:aJ}{b:Option Addr}{c:Nat}{l:List Int}(aj:qu eB J b l)(aA:l.length<=1000000)(oo:addrEq b b=true):
 Fn (aU Q g0) 138 [.slice b l.length c] eB J (fun u m' ah=>u=.bool (decide (PV l))/\m'=eB/\J=ah):=by
 refine Fn.b9 (b1 Tryz.func138) I I fun H=>?_;refine af 0x6af810ca1ce059 ?_;refine dV [(3,.int .i64 ((l.length:Int) -1)),(0,_)] ?_;refine bp ?_;refine' aK.bK (fun(i:Int)=>⟨[(3,.int .i64 i)],eB,J,i<l.length/\-1<=i/\(∀(j:Nat) x y,i<=j->l[j]?=some x->l[j+1]?=some y->¬y<x),i.toNat⟩) ((l.length:Int) -1) ?hs ?bn;case hs=>exact⟨aa,aa,fun j x y aW U an=>by have:=(dO.1 an).1;omega⟩
 case bn=>
  rintro i hinv;try simp only at hinv
  obtain⟨hi,aqO,has⟩:=hinv;refine af 0x17c1039 ?_;refine If (fun gm=>?_) fun gm=>?_
  ·obtain⟨a,off,cells,rfl,qR,hN⟩:=aj aa;obtain⟨dH,iS,aEg⟩:=hN i aa aa;obtain⟨hT,fl,arj⟩:=hN (i -1) aa aa;refine af 0x17d5f57 ?_;refine aK.draw I (by kernel_rfl) (a0:=[.val 0,.val 1,.val 2,.val 3,.val 4,.val 5,.val 6,.val 7,.val 8,.bw 9]) (by kernel_rfl) ?_;refine af 0x1821 ?_;refine' bX.val I I I I (j1 I I ?ar (g8 (fJ I) ?az)) ?_;case ar=>exact qR
   case az=>assumption
   refine af 0x30c21 ?_;refine' bX.val I I I I (j1 I I ?ar (g8 (fJ I) ?az)) ?_;case ar=>exact qR
   case az=>assumption
   refine' bX.call I I I I I I I I I I (a1:=[]) (cB:=eB) (.refl _) trivial (atB) ?_;rintro v m' ah hle ⟨rfl,rfl,rfl⟩;rw[nL];refine af 0x2f8 ?_;refine If (fun nO=>?_) fun nO=>?_
   ·refine af 0x1abe059 ?_;refine iw ?_
    refine⟨dh Value.bool ?_,I,I⟩
    symm;rw[RA];exact fun q=>q (i -1).toNat _ _ fl (by rw[show(i -1).toNat+1=i.toNat by omega];exact iS) (by simpa using nO)
   ·refine af 0x60430e757 ?_;refine eS (i -1) ?_;refine⟨aa,aa,fun j x y aW U an=>?_⟩;by_cases q:i<=j;(exact has j x y q U an);(obtain rfl:j=(i -1).toNat:=by omega);(rw[fl] at U;rw[show(i -1).toNat+1=i.toNat by omega,iS] at an;injection U with U;injection an with an;subst U;subst an;simpa using nO)
  ·refine af 0x6af816757 ?_;refine iw ?_
   refine⟨dh Value.bool ?_,I,I⟩
   symm;rw[Eu];exact fun j x y U an=>has j x y aa U an
def ael{g:cM}{x:dn}(h:g1 g x=0)(hk:x.k=2):0<=x.i/\x.i<g.is.length/\0<=x.p/\x.p<g.pl/\1<=x.ao.length/\x.ao.length<=10:=by
 unfold g1 at h;rw[aG aa,aP hk] at h;split at h
 ·omega
 ·split at h<;>omega
def au3{g:cM}:∀{l:List dn},(∀x∈l,g1 g x=0)->p5 g l=0:=by
 intro l;induction l with
 |nil=>intro _;rfl
 |cons y r aC=>
  intro h;show(if g1 g y≠0 then g1 g y else p5 g r)=0;rw[aG (by rw[h y (.head _)];simp)];exact aC fun x U=>h x (.tail _ U)
def aem{g:cM}:∀{l:List dn} {i:Nat} {x:dn},(∀y∈l.take i,g1 g y=0)->l[i]?=some x->g1 g x≠0->p5 g l=g1 g x:=by
 intro l;induction l with
 |nil=>intro i x _ h;cases h
 |cons y r aC=>
  intro i x h U aA;show(if g1 g y≠0 then g1 g y else p5 g r)=_;cases i with
  |zero=>simp at U;subst U;rw[aP aA]
  |succ i=>
   rw[aG (by rw[h y (.head _)];simp)];exact aC (fun z aR=>h z (.tail _ aR)) (by simpa using U) aA
def WJ{α:Type}{P:α->Prop}{l:List α}{i:Nat}{x:α}(h:∀y∈l.take i,P y)(U:l[i]?=some x)(ap:P x):∀y∈l.take (i+1),P y:=by
 intro y an;rw[ly,U] at an;rcases mm.1 an with q|q
 ·exact h y q
 ·simp at q;subst q;exact ap
def ayp{gx:Nat}{g:cM}{cO cy:Option Addr}{bu ci:Nat}{j3 j2 h1:Value}{aS:aJ}(aB:r' J g cO bu cy ci)(aA:∀x∈g.ns,g1 g x=0)(c2:g.ns.length<=2000)(i2:g.is.length<=200):
 Fn (aU Q g0) 105 [.pointer (some ⟨gx,0,none⟩)] (j4 gx g cO bu cy ci j3 j2 h1::aS) J (fun u m' ah=>u=.int .i64 (Gk g)/\m'=j4 gx g cO bu cy ci j3 j2 h1::aS/\J=ah):=by
 obtain⟨_,pX⟩:=aB.n.at;obtain⟨_,Aw⟩:=aB.i.at;have zw:addrEq cy cy=true:=aB.i.addr;have C9:addrEq cO cO=true:=aB.n.addr;refine Fn.b9 (b1 Tryz.func105) I I fun H=>?_;refine af 0xaa6b6c1ce059 ?_;refine' W.step I (.of (ti I I I I I (ee I) ?aQ ?ae ?ag fun uV=>?_));case aQ=>exact cJ
 case ae=>exact cJ
 case ag=>exact cJ
 refine af 0x302 ?_;rw[ahS,ff,show List.replicate g.is.length (0:Int)=nR g g.ns.length from(anM (b2 _)).symm];refine af 0xd5f021954d6d839 ?_;refine dV [(4,.int .i64 (((g.ns.length):Int) -1)),(0,_),(3,_)] ?_;refine bp ?_;refine' aK.bK (fun(k:Nat)=>⟨[(4,.int .i64 ((k:Int) -1))],zb uV (nR g k)::j4 gx g cO bu cy ci j3 j2 h1::aS,J,k<=g.ns.length,k⟩) (g.ns.length) ?hs ?bn;case hs=>exact b2 _
 case bn=>
  rintro k hinv;try simp only at hinv
  have hk:=hinv;refine af 0x17c1039 ?_;refine If (fun n7=>?_) fun n7=>?_
  ·obtain⟨a,off,cells,bA,rfl,gX,hN⟩:=pX aa;obtain⟨x,cs,U,iI,_,dU⟩:=hN ((k:Int) -1) aa aa;obtain⟨bc,bb,bl,bt,b0,cE,rfl,iS,oX,oY⟩:=dU;have gd:g.ns[k -1]?=some x:=by rw[<-U];congr 1;omega
   have mV:k -1+1=k:=aa
   have hZ:=aA x (dq gd);refine af 0xb3054d6d839d5f57 ?_;refine eu fun cN=>?_;refine af 0xbe08a6e71c ?_;refine If (fun Eg=>?_) fun Eg=>?_
   ·have arc:=ael hZ (by simpa using Eg);have jd:(nR g k).length=g.is.length:=vb;refine af 0x186153439 ?_;refine' n4 ?hs ?_;case hs=>exact Pl x.i.toNat aa
    refine af 0x30218738 ?_;refine eS (k -1) ?_ (hm:=(by rw[anO gd (by simpa using Eg) aa aa,mV,show((k -1:Nat):Int)=(k:Int) -1 by omega];exact .cons _ (.refl _)));omega
   ·refine af 0x60430e757 ?_;refine eS (k -1) ?_ (hm:=(by rw[anN gd (by simpa using Eg),mV];exact .cons _ (.refl _)));omega
  ·obtain rfl:k=0:=aa
   refine af 0x1abe025535b60e757 ?_;refine dV [(49,.int .i64 ((0):Int)),(0,_),(3,_),(47,_),(48,_)] ?_;refine bp ?_;refine' aK.bK (fun(i:Nat)=>⟨[(49,.int .i64 (i:Int))],zb uV (nR g 0)::j4 gx g cO bu cy ci j3 j2 h1::aS,J,i<=g.ns.length/\∀x∈g.ns.take i,x.k=2->g.is[x.i.toNat]?=some (x.p,(x.ao.length:Int)),g.ns.length -i⟩) (0) ?hs ?bn;case hs=>exact⟨c6 _,fun x U=>by cases U⟩
   case bn=>
    rintro i hinv;try simp only at hinv
    obtain⟨hi,gD⟩:=hinv;refine af 0xbe099 ?_;refine If (fun Ab=>?_) fun Ab=>?_
    ·obtain⟨a,off,cells,bA,rfl,gX,hN⟩:=pX aa;obtain⟨x,cs,U,iI,_,dU⟩:=hN i aa aa;obtain⟨bc,bb,bl,bt,b0,cE,rfl,iS,oX,oY⟩:=dU;have aN:addrEq bc bc=true:=by obtain⟨e,h⟩:=iS;exact h.addr
     rw[ff] at U;have hZ:=aA x (dq U);refine af 0x2cd9d5f57 ?_;refine eu fun fh=>?_;refine af 0x5f1c ?_;refine aK.H3 [] I (by kernel_rfl) (a0:=[.val 0,.val 1,.val 2,.val 3,.val 4,.val 5,.val 6,.val 7,.val 8,.val 9,.val 10,.val 11,.val 12,.val 13,.val 14,.val 15,.val 16,.val 17,.val 18,.val 19,.val 20]) (by kernel_rfl) ?_;refine af 0x914d ?_;refine z2 56 (fun MI=>?_) fun MI=>?_
     ·have arc:=ael hZ (by simpa using MI);obtain⟨qA,aFg,aCu,aC0,rfl,vg,aqC⟩:=Aw aa;obtain⟨y,cs,an,aDH,_,rfl⟩:=aqC x.i aa aa;refine af 0x40aa6a9ab329aa6b6c1 ?_;refine' hK.ahl I I I I I I (aAj I (.inr ⟨I,I⟩) I I (asU Q g0) (la:=[_,_]) (bs:=[_,_]) I I I I) ?_;refine af 0x5f08 ?_;refine If (fun u1=>?_) fun u1=>?_
      ·
        refine af 0x1abe059 ?_;refine'⟨.inr I,I,_,j4 _ _ _ _ _ _ _ _ _::aS,.tmp I .nil,(by exact .cons _ (.cons _ (.refl _))),?_⟩;refine⟨dh (Value.int .i64) ?_,I,I⟩;have ke:i>=g.ns.length->¬∃x∈g.ns,x.k=2/\g.is[x.i.toNat]?≠some (x.p,(x.ao.length:Int)):=by
         rintro vu ⟨x,ae,ag,aE⟩;rw[ft aa] at gD;exact aE (gD x ae ag)
        unfold Gk
        have aED:=U;rw[aP ⟨x,dq U,by simpa using MI,fun q=>u1 (by rw[an] at q;injection q with q;rw[q])⟩]
      ·
        refine af 0x3011e757 ?_;refine eS (i+1) ?_ (hm:=.cons _ (.refl _));refine⟨aa,WJ gD U fun hk=>?_⟩;(rw[an];simp at u1;rw[<-u1.1,<-u1.2])
     ·refine af 0x6f7bdef7bdef7bdef7b ?_;refine hK.PC I I I I I I ?_;refine af 0x3011e757d5f08 ?_;refine eS (i+1) ?_ (hm:=.cons _ (.refl _));refine⟨aa,WJ gD U fun hk=>?_⟩;exact absurd hk (by simpa using MI)
    ·refine af 0xe757 ?_;refine' W.step I (Exec.call I I I I I I I (a1:=_) (cB:=[]) (by rw[gC]) trivial ((by have h:=alB (Q:=Q) (g0:=g0) (J:=J) (eB:=zb uV (nR g 0)::j4 gx g cO bu cy ci j3 j2 h1::aS) (l:=nR g 0) (c:=g.is.length) (v:=0) (qu.own (.head _)) (by rw[vb];omega);rw[vb] at h;exact h)) ?_);rintro v m' ah hle ⟨rfl,rfl,rfl⟩;rw[gC];refine ns ?_;refine If (fun Mb=>?_) fun Mb=>?_
     ·refine af 0x1abe059 ?_;refine'⟨.inr I,I,_,j4 _ _ _ _ _ _ _ _ _::aS,.tmp I .nil,(by exact .cons _ (.refl _)),?_⟩;refine⟨dh (Value.int .i64) ?_,I,I⟩;have ke:i>=g.ns.length->¬∃x∈g.ns,x.k=2/\g.is[x.i.toNat]?≠some (x.p,(x.ao.length:Int)):=by
        rintro vu ⟨x,ae,ag,aE⟩;rw[ft aa] at gD;exact aE (gD x ae ag)
      unfold Gk
      rw[aG (ke aa),aP (Wn.2 Mb)]
     ·refine af 0xe757 ?_;refine' W.step I (Exec.call I I I I I I I (a1:=_) (cB:=[]) (by rw[gC]) trivial ((by have h:=as7 (Q:=Q) (g0:=g0) (J:=J) (eB:=zb uV (nR g 0)::j4 gx g cO bu cy ci j3 j2 h1::aS) (l:=nR g 0) (c:=g.is.length) (qu.own (.head _)) (by rw[vb];omega) (by simp[addrEq]);rw[vb] at h;exact h)) ?_);rintro v m' ah hle ⟨rfl,rfl,rfl⟩;rw[gC];refine af 0x5f11 ?_;refine If (fun Mc=>?_) fun Mc=>?_
      ·
        refine af 0x1abe059 ?_;refine'⟨.inr I,I,_,j4 _ _ _ _ _ _ _ _ _::aS,.tmp I .nil,(by exact .cons _ (.refl _)),?_⟩;refine⟨dh (Value.int .i64) ?_,I,I⟩;have ke:i>=g.ns.length->¬∃x∈g.ns,x.k=2/\g.is[x.i.toNat]?≠some (x.p,(x.ao.length:Int)):=by
         rintro vu ⟨x,ae,ag,aE⟩;rw[ft aa] at gD;exact aE (gD x ae ag)
        unfold Gk
        rw[aG (ke aa),aG (fun q=>Mb (Wn.1 q)),aP (af8.2 (by simpa using Mc))]
      ·
        refine af 0x6af816757 ?_;refine'⟨.inr I,I,_,j4 _ _ _ _ _ _ _ _ _::aS,.tmp I .nil,(by exact .cons _ (.refl _)),?_⟩;refine⟨dh (Value.int .i64) ?_,I,I⟩;have ke:i>=g.ns.length->¬∃x∈g.ns,x.k=2/\g.is[x.i.toNat]?≠some (x.p,(x.ao.length:Int)):=by
         rintro vu ⟨x,ae,ag,aE⟩;rw[ft aa] at gD;exact aE (gD x ae ag)
        unfold Gk
        rw[aG (ke aa),aG (fun q=>Mb (Wn.1 q)),aG (fun q=>af8.1 q (by simpa using Mc))]
def anZ{g:cM}(h:g.pl<1\/4<g.pl\/g.ns.length<1\/2000<g.ns.length\/200<g.is.length):iG g=2:=by unfold iG;rw[aP h]
def anX{g:cM}(h:¬(g.pl<1\/4<g.pl\/g.ns.length<1\/2000<g.ns.length\/200<g.is.length))(ag:p5 g g.ns≠0):iG g=p5 g g.ns:=by unfold iG;rw[aG h,aP ag]
def anY{g:cM}(h:¬(g.pl<1\/4<g.pl\/g.ns.length<1\/2000<g.ns.length\/200<g.is.length))(ag:p5 g g.ns=0)(aE:¬∃es,gq g.ns (g.ns.length+1) (-1) 0 0=some (g.ns.length,es)):iG g=9:=by
 unfold iG;rw[aG h,aG (fun q=>q ag)];split
 ·rfl
 ·rename_i n es a6
  rw[aP (fun q=>aE ⟨es,by rw[a6,q]⟩)]
def anW{g:cM}(h:¬(g.pl<1\/4<g.pl\/g.ns.length<1\/2000<g.ns.length\/200<g.is.length))(ag:p5 g g.ns=0){es:List iv}(aE:gq g.ns (g.ns.length+1) (-1) 0 0=some (g.ns.length,es))(a6:40<yu es):iG g=5:=by
 unfold iG;rw[aG h,aG (fun q=>q ag),aE];simp only;rw[aG (fun q=>q I),aP a6]
def an0{g:cM}(h:¬(g.pl<1\/4<g.pl\/g.ns.length<1\/2000<g.ns.length\/200<g.is.length))(ag:p5 g g.ns=0){es:List iv}(aE:gq g.ns (g.ns.length+1) (-1) 0 0=some (g.ns.length,es))(a6:¬40<yu es):iG g=Gk g:=by
 unfold iG;rw[aG h,aG (fun q=>q ag),aE];simp only;rw[aG (fun q=>q I),aG a6];rfl
def VY{L vs:List Int}(h:vs.length=L.length):kO L 0 vs=vs:=by
 unfold kO;rw[ku,nL,to aa,gC]
abbrev PK(gx b5 ad dg:Nat)(g:cM)(cO:Option Addr)(bu:Nat)(cy:Option Addr)(ci:Nat)(es:List iv):aJ:=Gw gx b5 ad dg g cO bu cy ci (es.map fun e=>e.1) (es.map fun e=>e.2.1) (es.map fun e=>e.2.2)
def Yn(g:cM)(cO:Option Addr)(bu:Nat)(cy:Option Addr)(ci:Nat)(J:ai):Value->aJ->ai->Prop:=fun u m' ah=>J=ah/\∃v,u=.tuple #[v,.int .i64 (iG g)]/\
 (iG g=0->∃es gx b5 ad dg,gq g.ns (g.ns.length+1) (-1) 0 0=some (g.ns.length,es)/\v=.pointer (some ⟨gx,0,none⟩)/\m'=PK gx b5 ad dg g cO bu cy ci es)
def PG{g:cM}{cO cy:Option Addr}{bu ci:Nat}{m':aJ}{e:Int}(ae:iG g=e)(ag:e≠0):Yn g cO bu cy ci J (p6 [.pointer none,.int .i64 e]) m' J:=
 ⟨I,_,by rw[ae];rfl,fun q=>absurd (ae.symm.trans q) ag⟩
def aAR{g:cM}{cO cy:Option Addr}{bu ci:Nat}(aB:r' J g cO bu cy ci):
 Fn (aU Q g0) 64 [Ao g cO bu cy ci] [] J (Yn g cO bu cy ci J):=by
 obtain⟨_,pX⟩:=aB.n.at;have zw:addrEq cy cy=true:=aB.i.addr;have C9:addrEq cO cO=true:=aB.n.addr;refine Fn.b9 (b1 Tryz.func64) I I fun H=>?_;refine rg ?_;refine fq fun ba=>?_;refine af 0x6042 ?_;refine fc [1] ?_;refine bp ?_;refine' aK.hp 0 [(35,.bool (decide ((g.pl<1\/4<g.pl\/g.ns.length<1\/2000<g.ns.length\/200<g.is.length))))] ?lF ?lG;case lF=>
  refine af 0x1229ba ?_;refine eX 13 (fun jT=>?_) fun jT=>?_
  ·refine af 0x611bdef6146f7bd851bdef6146f7b ?_;exact ce
  ·refine af 0x14114d ?_;refine eX 18 (fun Iu=>?_) fun Iu=>?_
   ·refine af 0x308def7b0a37bdec28def7b ?_;exact ce
   ·refine af 0x282154d ?_;refine eX 24 (fun Is=>?_) fun Is=>?_
    ·refine af 0xc237bdec28def7b ?_;exact ce
    ·refine af 0x282154d ?_;refine eX 30 (fun It=>?_) fun It=>?_
     ·refine af 0x308def7b ?_;exact ce
     ·refine af 0x3082154d ?_;exact ce
 case lG=>
  refine bp ?_;refine If (fun wM=>?_) fun wM=>?_
  ·refine af 0x357c0859 ?_;refine'⟨.inr I,I,_,_,.tmp I (.tmp I .nil),(by exact kt _),?_⟩
   exact PG (anZ wM) bI
  ·refine af 0x105e757 ?_;refine fq fun D6=>?_;refine af 0x357c04aa6e702 ?_;refine dV [(42,.int .i64 ((0):Int)),(1,_),(4,_),(40,_),(41,_)] ?_;refine bp ?_;refine' aK.bK (fun(i:Nat)=>⟨[(42,.int .i64 (i:Int))],j4 D6 g cO bu cy ci (.slice none 0 0) (.slice none 0 0) (.slice none 0 0)::[(ba,.row (pn g cO bu cy ci) 26)],J,i<=g.ns.length/\∀x∈g.ns.take i,g1 g x=0,g.ns.length -i⟩) (0) ?hs ?bn;case hs=>exact⟨c6 _,fun x U=>by cases U⟩
   case bn=>
    rintro i hinv;try simp only at hinv
    obtain⟨hi,gD⟩:=hinv;refine af 0xbe099 ?_;refine If (fun akf=>?_) fun akf=>?_
    ·obtain⟨a,off,cells,bA,rfl,gX,hN⟩:=pX aa;obtain⟨x,cs,U,iI,_,dU⟩:=hN i aa aa;obtain⟨bc,bb,bl,bt,b0,cE,rfl,iS,oX,oY⟩:=dU;have aN:addrEq bc bc=true:=by obtain⟨e,h⟩:=iS;exact h.addr
     have aH:addrEq bl bl=true:=by obtain⟨e,h⟩:=oX;exact h.addr
     have bo:addrEq b0 b0=true:=by obtain⟨e,h⟩:=oY;exact h.addr
     rw[ff] at U;refine af 0x2cd9d5f57 ?_;refine eu fun ef=>?_;refine af 0xb0e71c ?_;refine' W.step I (Exec.call I I I I I I I (a1:=[j4 D6 g _ _ _ _ _ _ _]) (cB:=[_,_]) (hR 1 I (hR 0 I (hR 0 I .nil))) trivial (auZ iS oX oY aa aa aa zw) ?_);rintro v m' ah hle ⟨rfl,rfl,rfl⟩;refine af 0x5f040e702 ?_;refine If (fun Ab=>?_) fun Ab=>?_
     ·refine af 0x6af810839 ?_;refine'⟨.inr I,I,_,_,.tmp I (.tmp I .nil),(by exact kt _),?_⟩
      exact PG ((anX wM (by rw[aem gD U Ab];exact Ab)).trans (aem gD U Ab)) Ab
     ·refine af 0x3011e757 ?_;refine eS (i+1) ?_ (hm:=.cons_cons _ (.cons _ (.cons_cons _ .slnil)));exact⟨aa,WJ gD U (x4.1 Ab)⟩
    ·have fB:∀x∈g.ns,g1 g x=0:=by
        rw[ft aa] at gD;exact gD
     have TV:=au3 fB;have aq0:∀x∈g.ns,x.ao.length<=60:=fun x U=>(au1 (fB x U) aa).1;refine af 0x5f57 ?_;refine aK.draw I (by kernel_rfl) (a0:=[.val 0,.val 1,.val 2,.val 3,.val 4,.val 5,.iF 6,.val 7,.val 8,.val 9,.iF 10,.val 11,.val 12,.val 13,.iF 14,.val 15,.val 16,.b6 [13,12,11,9,8,7,5,4,3,2,1,0],.bw 17,.val 18,.val 19,.b6 [13,12,11,9,8,7,2,1],.bw 20,.val 21,.val 22,.b6 [13,12,11,2],.bw 23]) (by kernel_rfl) ?_;refine af 0xaa68421 ?_;refine bX.makeSlice I I I I I I I (ee I) ?aQ ?ae ?ag fun LI=>?_;case aQ=>exact cJ
     case ae=>exact cJ
     case ag=>exact cJ
     refine af 0x154d ?_;refine bX.makeSlice I I I I I I I (ee I) ?aQ ?ae ?ag fun LJ=>?_;case aQ=>exact cJ
     case ae=>exact cJ
     case ag=>exact cJ
     refine af 0x154d ?_;refine bX.makeSlice I I I I I I I (ee I) ?aQ ?ae ?ag fun LK=>?_;case aQ=>exact cJ
     case ae=>exact cJ
     case ag=>exact cJ
     refine af 0x18e75b6e75b6e75b6 ?_;rw[ahS,ff];refine af 0x53439 ?_;refine' W.step I (Exec.call I I I I I I I (a1:=Gw D6 LI LJ LK g cO bu cy ci (List.replicate g.ns.length 0) (List.replicate g.ns.length 0) (List.replicate g.ns.length 0)) (cB:=[_]) (hR 3 I (hR 2 I (hR 1 I (hR 0 I (hR 0 I .nil))))) trivial (aAQ aB aa aq0 (g.ns.length+1) 0 (-1) 0 _ _ _ cO bu (c6 _) aa (kU) (kU) (kU) aa aa aB.n) ?_);rintro v m' ah hle ⟨b',kM,c',ok,LB,lX,h3,rfl,rfl,rfl,tG,B5,IQ,hm⟩;refine af 0x30211ce1 ?_;have b3:(∃es,gq g.ns (g.ns.length+1) (-1) 0 0=some (g.ns.length,es))↔(ok=true/\kM=0):=by
        cases oW:gq g.ns (g.ns.length+1) (-1) 0 0 with
        |none=>rw[oW] at hm;rw[hm];simp
        |some p=>
         obtain⟨bH,aF⟩:=p;rw[oW] at hm;obtain⟨ae,_,_,_,ag,_⟩:=hm;obtain⟨_,aE,_⟩:=uz _ _ _ _ _ _ oW;rw[jO] at ag;subst ae;constructor
         ·rintro⟨es,q⟩;injection q with q;injection q with aN aH;exact⟨I,aa⟩
         ·rintro⟨_,q⟩;exact⟨aF,by rw[show bH=g.ns.length by omega]⟩
     refine fc [8,9,4] ?_;refine bp ?_;refine' aK.hp 2 [(87,.bool (decide ((¬(ok=true/\kM=0)))))] ?Rp ?RE;case Rp=>
      refine af 0xc43a ?_;refine eX 83 (fun Sf=>?_) fun Sf=>?_
      ·
        refine af 0x1846f7b ?_;exact ce
      ·
        refine af 0x18410a1 ?_;exact ce
     case RE=>
      refine bp ?_;refine If (fun Q2=>?_) fun Q2=>?_
      ·
        refine af 0x357c0859 ?_;refine'⟨.inr I,I,_,_,.tmp I (.tmp I .nil),(by exact .cons_cons _ (.cons_cons _ (.cons_cons _ (.cons_cons _ (kt _))))),?_⟩
        exact PG (anY wM TV (fun q=>Q2 (b3.1 q))) bI
      ·
        obtain⟨es,oW⟩:=b3.2 (x4.1 Q2);rw[oW] at hm;obtain⟨_,_,he⟩:=uz _ _ _ _ _ _ oW;obtain⟨_,rfl,rfl,rfl,_,_⟩:=hm;have cZ:kO (List.replicate g.ns.length 0) 0 (es.map fun e=>e.1)=es.map fun e=>e.1:=VY (by simp[he]);have dS:kO (List.replicate g.ns.length 0) 0 (es.map fun e=>e.2.1)=es.map fun e=>e.2.1:=VY (by simp[he]);have bi:kO (List.replicate g.ns.length 0) 0 (es.map fun e=>e.2.2)=es.map fun e=>e.2.2:=VY (by simp[he]);rw[cZ,dS,bi];have rE:(es.map fun e=>e.2.1).length=g.ns.length:=by simp[he]
        refine af 0x29b60e757 ?_;refine' W.step I (Exec.call I I I I I I I (a1:=PK D6 LI LJ LK g cO bu cy ci es) (cB:=[_]) (.refl _) trivial ((by have h:=auh (Q:=Q) (g0:=g0) (J:=J) (eB:=PK D6 LI LJ LK g cO bu cy ci es) (l:=es.map fun e=>e.2.1) (c:=g.ns.length) (qu.own (.tail _ (.tail _ (.head _)))) aa aa;rw[rE] at h;exact h)) ?_);rintro v m' ah hle ⟨rfl,rfl,rfl⟩;refine af 0x5f04 ?_;refine If (fun Q4=>?_) fun Q4=>?_
        ·refine af 0x357c0859 ?_;refine'⟨.inr I,I,_,_,.tmp I (.tmp I .nil),(by exact .cons_cons _ (.cons_cons _ (.cons_cons _ (.cons_cons _ (kt _))))),?_⟩
         have Tg:=ZB (by obtain⟨e,r,ae,_,ag,_⟩:=agR oW;exact⟨e,r,ae,ag⟩:∃e r,es=e::r/\e.2.1=0)
         exact PG (anW wM TV oW (by rw[Tg];exact Q4)) bI
        ·refine af 0x10e757 ?_;refine' W.step I (Exec.call I I I I I I I (a1:=PK D6 LI LJ LK g cO bu cy ci es) (cB:=[_]) (.refl _) trivial (ayp aB fB aa aa) ?_);rintro v m' ah hle ⟨rfl,rfl,rfl⟩;refine af 0x1abe042 ?_;refine'⟨.inr I,I,_,_,.tmp I (.tmp I .nil),(by exact .cons_cons _ (.cons_cons _ (.cons_cons _ (.cons_cons _ (kt _))))),?_⟩
         have Tg:=ZB (by obtain⟨e,r,ae,_,ag,_⟩:=agR oW;exact⟨e,r,ae,ag⟩:∃e r,es=e::r/\e.2.1=0)
         have Tn:=an0 wM TV oW (by rw[Tg];exact Q4)
         rw[<-Tn];exact⟨I,_,I,fun _=>⟨es,_,_,_,_,oW,I,I⟩⟩
def an1{g:cM}{cO cy:Option Addr}{bu ci:Nat}(aB:r' J g cO bu cy ci):
 Fn (aU Q g0) 29 [Ao g cO bu cy ci] [] J (aiR (.int .i64 (iG g)) J):=by
 refine Fn.b9 (b1 Tryz.func29) I I fun H=>?_;refine rg ?_;refine fq fun ba=>?_;refine af 0x5e702 ?_;refine' W.step I (Exec.call I I I I I I I (a1:=[]) (cB:=[_]) (.refl _) trivial (aAR aB) ?_);rintro v m' ah hle ⟨rfl,w,rfl,_⟩;refine af 0xd5f020e70211ce1 ?_;refine mP ?_;exact⟨I,I,ai.le.refl _⟩
end
end
end Go.Opn

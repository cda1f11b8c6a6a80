/- A part of the proof of ResumeBack. -/
import Derived.Test.YtiemfjdacfioeaaGreatDoorCbb
import Derived.Test.YtiemfjdacfioeaaGreatDoorCba
set_option maxRecDepth 100000
set_option maxHeartbeats 4000000
set_option linter.unusedVariables false
set_option linter.unusedSimpArgs false
namespace Go.Opn
noncomputable section
open Go.Cre Go.RowKit Go.Proofs
section
variable {Q:dI Tryz.prog}{g0:Nat}{J:aI}
structure u2 (J:aI) (dd df ad cg:Nat) (g:bz) (aT:Option Addr) (aQ:Nat) (aL:Option Addr) (ci:Nat) (P:List Int):Prop where
 w:J dd=some (Z9 g aT aQ aL ci (EY df g.ns.length) (EY ad g.ns.length) (EY cg g.ns.length),130)
 p:J df=some (P.map (Value.int .i64),3)
theorem u2.mono{J ag:aI}(hle:J.le ag){dd df ad cg:Nat}{g:bz}{aT aL:Option Addr}{aQ ci:Nat}{P:List Int}(h:u2 J dd df ad cg g aT aQ aL ci P):u2 ag dd df ad cg g aT aQ aL ci P:=⟨hle _ _ h.w,hle _ _ h.p⟩
theorem SF{σ:Type}{step:σ->Nat->Int->σ×Bool}{te:Nat->σ->aO->Prop}{dd df ad cg:Nat}{g:bz}{aT aL:Option Addr}{aQ ci:Nat}{P:List Int}{y4:FuncId}{cap:Array Value}{p:Int}{dU:Nat}{rR:σ}{m0:aO}
 (aq:fG J g aT aQ aL ci)(hw:u2 J dd df ad cg g aT aQ aL ci P)(aD:Tree g P)(dn:g.ns.length<=2000)(nJ:∀x∈g.ns,x.ak.length<=60)
 (D4:∀(c a:Nat) s ah,a<c->te c s ah->te a s ah)
 (az:∀(c a:Nat) s ah k,a<c->c<g.ns.length->te c s ah->Fn (bb Q g0) y4 (.int .i64 (a:Int)::.int .i64 k::cap.toList) ah J (fun u m' ag=>J=ag/\u=.bool (step s a k).2/\te a (step s a k).1 m'))
 (ho:dU<g.ns.length)(bD:te dU rR m0):
 Fn (bb Q g0) 98 [.pointer (some ⟨dd,0,none⟩),.int .i64 (dU:Int),.int .i64 p,.func (.func y4) #[] cap] m0 J (fun u m' ag=>J=ag/\∃c,te c (Ad step rR (o1 g P p dU)) m'):=by
 obtain⟨_,fD⟩:=aq.n.at;have fW:addrEq aL aL=true:=aq.i.addr;have zn:=hw.w;have asX:=hw.p;have dO:=aD.len;have ec:∀c:Nat,c<g.ns.length->∃a,P[c]?=some a/\nth (P.map (Value.int .i64)) (0+c*1)=some (.int .i64 a)/\-1<=a/\a<g.ns.length:=fun c aH=>by
  by_cases q:c=0
  ·subst q;exact⟨-1,aD.root,nh 0 aD.root,by omega,by omega⟩
  ·obtain⟨a,aa,ae,_⟩:=aD.up c (by omega) aH
   exact⟨a,aa,nh c aa,by omega,by omega⟩
 obtain⟨a0,agP,jj,G4,agQ⟩:=ec dU ho;refine Fn.cH (cQ Tryz.func98) rfl rfl fun H=>?_;refine rg ?_;refine aM ?_;refine I V.aF ?_;refine I V.ah ?_;refine I V.aX ?_;refine I V.aF ?_;refine I V.aA ?_;refine ns ?_;refine ab.block ?_;refine' ab.c2 (l':=[(1,.int .i64 ((dU):Int)),(8,.int .i64 (a0)),(0,_),(2,_),(3,_)]) ⟨?e3,?jq,rfl,rfl,rfl,trivial⟩ (bA _) ?_;case e3=>exact bS
 case jq=>exact bS
 refine aj ?_;refine' ab.dF (fun(bH:Nat×Int×σ×aO)=>match bH with|(c,at_,s1,m1)=>⟨[(1,.int .i64 (c:Int)),(8,.int .i64 at_)],m1,J,c<g.ns.length/\P[c]?=some at_/\-1<=at_/\at_<g.ns.length/\te c s1 m1/\Ad step rR (o1 g P p dU)=Ad step s1 (o1 g P p c),c⟩) ⟨dU,a0,rR,m0⟩ ?af ?bE
 case af=>exact⟨ho,agP,G4,agQ,bD,rfl⟩
 case bE=>
  rintro⟨c,at_,s1,m1⟩ hinv;try simp only at hinv
  obtain⟨aH,fJ,Bh,vA,ud,rC⟩:=hinv;refine rg ?_;refine I V.ah ?_;refine I V.a1 ?_;refine ns ?_;refine If (fun p3=>?_) fun p3=>?_
  ·obtain⟨a,lA,h9,y,ai,n8⟩:=aD.up c (by by_cases q:c=0;(subst q;rw[aD.root] at fJ;injection fJ with fJ;omega);omega) aH;rw[fJ] at lA;injection lA with lA;subst lA
   obtain⟨b,au,VY,mW,mX⟩:=ec a (by omega);obtain⟨bR,off,cells,bG,rfl,ms,jP⟩:=fD (by omega);obtain⟨iM,cs,hf,gV,_,ey⟩:=jP a (by omega) (by omega);obtain⟨bm,bt,bl,bw,b8,dh,rfl,eo,ga,gz⟩:=ey;rw[cy,ai] at hf;injection hf with hf;subst hf
   have N6:=nJ y (cd ai);refine c5 ?_;refine aj ?_;refine ab.block ?_;refine rg ?_;refine aM ?_;refine I V.aF ?_;refine I V.ah ?_;refine I V.aX ?_;refine I V.c8 ?_;refine' W.step rfl (.of (e4 rfl rfl rfl (om Q g0) rfl rfl rfl fun a9=>?_));refine dN ?_;refine bj ?_;refine I V.bc ?_;refine I V.aF ?_;refine I V.a1 ?_;refine I V.ah ?_;refine dq 38 (fun pq=>?_) fun pq=>?_
   ·refine aW V.bc ?_;refine aW V.aF ?_;refine aW V.ah ?_;refine aW V.a1 ?_;refine I V.aV ?_;refine I V.ah ?_;refine dq 44 (fun sq=>?_) fun sq=>?_
    ·refine aW V.ah ?_;refine aW V.ah ?_;refine aW V.bc ?_;refine aW V.aF ?_;refine aW V.ah ?_;refine' W.rb rfl rfl rfl (Exec.call rfl rfl rfl rfl rfl rfl rfl (bh:=[]) (bW:=_) (.refl _) trivial (WL (gk:=[]) (eo.iB []) (by omega)) ?_);rintro v m' ag hle ⟨rfl,rfl,rfl⟩;rw[me];refine' W.rb rfl rfl rfl (Exec.call rfl rfl rfl rfl rfl rfl rfl (bh:=m1) (bW:=[_]) (List.perm_append_singleton _ _) trivial (az c a s1 m1 _ (by omega) aH ud) ?_);rintro v m2 ag hle ⟨rfl,rfl,rz⟩;refine aW V.oe ?_;refine I V.aV ?_;refine ns ?_;refine If (fun C6=>?_) fun C6=>?_
     ·refine aj ?_;refine ab.ret ?_;refine'⟨.inr rfl,rfl,_,_,.nil,(by first|exact pZ _ _|exact bA _),?_⟩;first
       |(have nO:=rz
         refine⟨rfl,a,?_⟩;rw[rC,BS fJ (by omega) ai ⟨pq,sq⟩];show te _ (if _=true then _ else _) _;rw[ap (by simpa using C6)];exact rz)
       |(refine⟨rfl,c,?_⟩
         rw[rC,Li fJ (by omega)];exact ud)
     ·refine aj ?_;refine ab.skip ?_;refine aj ?_;refine ab.draw rfl (by kernel_rfl) (bf:=[.val 0,.val 1,.val 2,.val 3,.val 4,.val 5,.val 6,.val 7,.val 8,.bV 9]) (by kernel_rfl) ?_;refine cq ?_;refine an rfl V.aF ?_;refine an rfl V.ah ?_;refine an rfl V.aX ?_;refine an rfl V.aF ?_;refine an rfl V.aA ?_;refine Fo rfl V.aA ?_;refine a7.nil ?_;refine cA ⟨a,b,(by first|(have nO:=rz;exact(step s1 a (ix (c:Int) y.ak 0)).1)|exact s1),_⟩ ?_ (hm:=(by first|exact pZ _ _|exact .cons _ (.refl _)));first|(have nO:=rz;exact⟨by omega,au,mW,mX,rz,by rw[rC,BS fJ (by omega) ai ⟨pq,sq⟩];show(if _=true then _ else _)=_;rw[aE (by simpa using C6)]⟩)|(have nO:=sq;exact⟨by omega,au,mW,mX,D4 c a _ _ (by omega) ud,by rw[rC,zE fJ (by omega) ai (fun q=>sq q.2)]⟩)|exact⟨by omega,au,mW,mX,D4 c a _ _ (by omega) ud,by rw[rC,zE fJ (by omega) ai (fun q=>pq q.1)]⟩
    ·refine al ?_;refine al ?_;refine al ?_;refine al ?_;refine al ?_;refine W.oL rfl rfl rfl rfl rfl ?_;refine W.oL rfl rfl rfl rfl rfl ?_;refine al ?_;refine I V.aV ?_;refine ns ?_;refine ab.wS rfl ?_;refine c5 ?_;refine aj ?_;refine ab.draw rfl (by kernel_rfl) (bf:=[.val 0,.val 1,.val 2,.val 3,.val 4,.val 5,.val 6,.val 7,.val 8,.bV 9]) (by kernel_rfl) ?_;refine cq ?_;refine an rfl V.aF ?_;refine an rfl V.ah ?_;refine an rfl V.aX ?_;refine an rfl V.aF ?_;refine an rfl V.aA ?_;refine Fo rfl V.aA ?_;refine a7.nil ?_;refine cA ⟨a,b,(by first|(have nO:=rz;exact(step s1 a (ix (c:Int) y.ak 0)).1)|exact s1),_⟩ ?_ (hm:=(by first|exact pZ _ _|exact .cons _ (.refl _)));first|(have nO:=rz;exact⟨by omega,au,mW,mX,rz,by rw[rC,BS fJ (by omega) ai ⟨pq,sq⟩];show(if _=true then _ else _)=_;rw[aE (by simpa using C6)]⟩)|(have nO:=sq;exact⟨by omega,au,mW,mX,D4 c a _ _ (by omega) ud,by rw[rC,zE fJ (by omega) ai (fun q=>sq q.2)]⟩)|exact⟨by omega,au,mW,mX,D4 c a _ _ (by omega) ud,by rw[rC,zE fJ (by omega) ai (fun q=>pq q.1)]⟩
   ·refine al ?_;refine al ?_;refine al ?_;refine al ?_;refine I V.aV ?_;refine I V.ah ?_;refine al ?_;refine al ?_;refine al ?_;refine al ?_;refine al ?_;refine W.oL rfl rfl rfl rfl rfl ?_;refine W.oL rfl rfl rfl rfl rfl ?_;refine al ?_;refine I V.aV ?_;refine ns ?_;refine ab.wS rfl ?_;refine c5 ?_;refine aj ?_;refine ab.draw rfl (by kernel_rfl) (bf:=[.val 0,.val 1,.val 2,.val 3,.val 4,.val 5,.val 6,.val 7,.val 8,.bV 9]) (by kernel_rfl) ?_;refine cq ?_;refine an rfl V.aF ?_;refine an rfl V.ah ?_;refine an rfl V.aX ?_;refine an rfl V.aF ?_;refine an rfl V.aA ?_;refine Fo rfl V.aA ?_;refine a7.nil ?_;refine cA ⟨a,b,(by first|(have nO:=rz;exact(step s1 a (ix (c:Int) y.ak 0)).1)|exact s1),_⟩ ?_ (hm:=(by first|exact pZ _ _|exact .cons _ (.refl _)));first|(have nO:=rz;exact⟨by omega,au,mW,mX,rz,by rw[rC,BS fJ (by omega) ai ⟨pq,sq⟩];show(if _=true then _ else _)=_;rw[aE (by simpa using C6)]⟩)|(have nO:=sq;exact⟨by omega,au,mW,mX,D4 c a _ _ (by omega) ud,by rw[rC,zE fJ (by omega) ai (fun q=>sq q.2)]⟩)|exact⟨by omega,au,mW,mX,D4 c a _ _ (by omega) ud,by rw[rC,zE fJ (by omega) ai (fun q=>pq q.1)]⟩
  ·refine aj ?_;refine ab.exit ?_;refine'⟨.inl rfl,rfl,_,_,.nil,(by first|exact pZ _ _|exact bA _),?_⟩;first
    |(have nO:=rz
      refine⟨rfl,a,?_⟩;rw[rC,BS fJ (by omega) ai ⟨pq,sq⟩];show te _ (if _=true then _ else _) _;rw[ap (by simpa using C6)];exact rz)
    |(refine⟨rfl,c,?_⟩
      rw[rC,Li fJ (by omega)];exact ud)
end
end
end Go.Opn
namespace Go.Opn
noncomputable section
open Go.Cre Go.RowKit
def P3 (P:Program)(t:TypeId):Bool:=match P.underlying t with
 |some (.array 2 e)=>(match P.underlying e with|some (.int .i64)=>true|_=>false)&&(match ej P e with|some 1=>true|_=>false)&&!P.eqGuardType P.depth t
 |_=>false
theorem aew{P:Program}{t:TypeId}{k:Nat}(h:ej P t=some k):eP P (sizeOf t)=some k:=by
 unfold ej at h;split at h
 ·rename_i i ao;injection h with h;subst h
  unfold sizeOf;rw[dL (a:=i)]
  ·rfl
  ·unfold typeInfo;rw[dL (a:=P) rfl,ao];rfl
 ·cases h
theorem Rl{P:Program}{e:TypeId}{n i:Nat}{xs ys:Array Value}{a c:Int}(he:P.underlying e=some (.int .i64))(U:xs[i]?=some (.int .i64 a))(ai:ys[i]?=some (.int .i64 c)):eP P (do
 let tj <-part e xs i
 let FF <-part e ys i
 let tj <-Op.equalIn (n+1) e tj FF
 if(!tj)=true then pure (ForInStep.done ((some false,()):Option Bool×Unit)) else pure (ForInStep.yield (none,())))=some (if a=c then ForInStep.yield (none,()) else ForInStep.done (some false,())):=by
 rw[dL (Lx he U),dL (Lx he ai),dL (eq_int he)];by_cases mV:a=c
 ·simp[mV];rfl
 ·simp[mV];rfl
theorem ad5{P:Program}{t:TypeId}{n:Nat}{a b c d:Int}(aD:P3 P t=true):eP P (Op.equalIn (n+1+1) t (.agg #[.int .i64 a,.int .i64 b]) (.agg #[.int .i64 c,.int .i64 d]))=some (decide (a=c/\b=d))/\P.eqGuardType P.depth t=false:=by
 unfold P3 at aD;split at aD
 ·rename_i e hu;simp only[fU,qL] at aD;obtain⟨⟨aa,ae⟩,aG⟩:=aD;have he:P.underlying e=some (.int .i64):=by split at aa;assumption;cases aa
  have af:ej P e=some 1:=by split at ae;assumption;cases ae
  refine⟨?_,aG⟩;unfold Op.equalIn;rw[dL (w6 hu)];simp only
  rw[dL (aew af)];simp only[Std.Legacy.Range.forIn_eq_forIn_range',Std.Legacy.Range.size]
  show eP P (do
   let r <-forIn [0,1] ((none,()):Option Bool×Unit) _
   _)=_
  rw[Sg];by_cases aa:a=c
  ·have bd:=Rl (n:=n) (xs:=#[.int .i64 a,.int .i64 b]) (ys:=#[.int .i64 c,.int .i64 d]) (i:=0) he rfl rfl;rw[aE aa] at bd;rw[dL (a:=((if b=d then none else some false,()):Option Bool×Unit))]
   ·by_cases ae:b=d
    ·rw[aE ae];simp[aa,ae];rfl
    ·rw[ap ae];simp[ae];rfl
   ·rw[dL bd];simp only
    rw[Sg];have a6:=Rl (n:=n) (xs:=#[.int .i64 a,.int .i64 b]) (ys:=#[.int .i64 c,.int .i64 d]) (i:=1) he rfl rfl;rw[dL a6];by_cases ae:b=d
    ·simp[ae];rfl
    ·simp[ae];rfl
  ·have bd:=Rl (n:=n) (xs:=#[.int .i64 a,.int .i64 b]) (ys:=#[.int .i64 c,.int .i64 d]) (i:=0) he rfl rfl;rw[ap aa] at bd;rw[dL (a:=((some false,()):Option Bool×Unit))]
   ·simp[aa];rfl
   ·rw[dL bd];rfl
 ·cases aD
section
variable {K:eL}{B:ea}{o:Oper}{n:Nat}{ds:e7}{l:List (Nat×Value)}{m m':aO}{J:aI}{eR:cn->aO->aI->Prop}{d:Nat}
theorem ZI{op:BinOp}{t eD:TypeId}{x y:Operand}{a b c e:Int}{r:Bool}(ar:o.op=.binOp op t x y eD)(dW:op=.eql/\r=decide (a=c/\b=e)\/op=.neq/\r=decide (¬(a=c/\b=e)))(U:b7 l x=some (.agg #[.int .i64 a,.int .i64 b]))(ai:b7 l y=some (.agg #[.int .i64 c,.int .i64 e]))(aD:P3 K.P t=true):cV K B o n ds l m J (.bool r):=by
 obtain⟨aa,ae⟩:=ad5 (n:=9998) (a:=a) (b:=b) (c:=c) (d:=e) aD;intro call aR S H ax aJ;have dO:∀p q:Int,plain (.agg #[.int .i64 p,.int .i64 q])=true:=fun p q=>rfl;unfold cO fq;simp only[ar];show nM K.P _ op t (bk S.T H x) (bk S.T H y)=_;rw[du ax H U,du ax H ai];show orElse (fI K.P S.T H o) _=_;have:fI K.P S.T H o=some (.val (.bool r) H):=by
  refine uz ax (by rw[ar];rfl) U ai (dO _ _) (dO _ _) ?_ rfl;unfold execOp;simp only[ar];rw[jy ax H U,jy ax H ai];rw[dL (a:=.bool r)]
  ·rfl
  rcases dW with⟨rfl,rfl⟩|⟨rfl,rfl⟩
  ·rw[dL (a:=())]
   ·have au:binOp .eql t (.agg #[.int .i64 a,.int .i64 b]) (.agg #[.int .i64 c,.int .i64 e])=(do pure (.bool (<-Op.equal t (.agg #[.int .i64 a,.int .i64 b]) (.agg #[.int .i64 c,.int .i64 e])))):=by simp[binOp]
    rw[au,dL (s:=Op.equal t _ _) aa];rfl
   ·unfold eqGuard;simp only[lK,Fl,Ej];rw[dL (a:=K.P) rfl,dL (a:=K.P) rfl,ae];rfl
  ·rw[dL (a:=())]
   ·have au:binOp .neq t (.agg #[.int .i64 a,.int .i64 b]) (.agg #[.int .i64 c,.int .i64 e])=(do pure (.bool (!(<-Op.equal t (.agg #[.int .i64 a,.int .i64 b]) (.agg #[.int .i64 c,.int .i64 e]))))):=by simp[binOp]
    rw[au,dL (s:=Op.equal t _ _) aa];show some (Value.bool (!decide (a=c/\b=e)))=_;rw[show(!decide (a=c/\b=e))=decide (¬(a=c/\b=e)) by simp]
   ·unfold eqGuard;simp only[lK,Fl,Ej];rw[dL (a:=K.P) rfl,dL (a:=K.P) rfl,ae];rfl
 rw[this];rfl
end
end
end Go.Opn
namespace Go.Opn
noncomputable section
open Go.Cre Go.RowKit Go.Proofs
def ib(s:List (Int×Int)):List Value:=s.flatMap fun x=>[.int .i64 x.1,.int .i64 x.2]
theorem Yg(s:List (Int×Int)):(ib s).length=s.length*2:=by
 unfold ib;induction s with
 |nil=>rfl
 |cons x s aK=>rw[Fu,dv,aK,iQ];simp;omega
theorem QQ:∀{s:List (Int×Int)} {i:Nat},(ib s).drop (i*2)=ib (s.drop i):=by
 intro s;induction s with
 |nil=>intro i;simp[ib]
 |cons x s aK=>
  intro i;cases i with
  |zero=>rfl
  |succ i=>
   rw[show(i+1)*2=(i*2)+1+1 by omega];show((.int .i64 x.1:Value)::(.int .i64 x.2)::ib s).drop (i*2+1+1)=ib (s.drop i);rw[Se,Se,aK]
theorem amp:∀{s:List (Int×Int)} {i:Nat},(ib s).take (i*2)=ib (s.take i):=by
 intro s;induction s with
 |nil=>intro i;simp[ib]
 |cons x s aK=>
  intro i;cases i with
  |zero=>simp[ib]
  |succ i=>
   rw[show(i+1)*2=(i*2)+1+1 by omega];show((.int .i64 x.1:Value)::(.int .i64 x.2)::ib s).take (i*2+1+1)=_;rw[Mv,Mv,aK];rfl
theorem EO(a b:List (Int×Int)):ib (a++b)=ib a++ib b:=by unfold ib;rw[Jm]
theorem Yf{s:List (Int×Int)}{i off:Nat}{x:Int×Int}(h:s[i]?=some x)(ar:off=i*2:=by omega):takeN 2 (oG off (ib s))=some [.int .i64 x.1,.int .i64 x.2]:=by
 subst ar;have ao:=(dX.1 h).1;rw[wY,QQ,mO ao];have:s[i]=x:=by rw[de ao] at h;injection h
 rw[this];rfl
theorem Yh{s:List (Int×Int)}{i off:Nat}{x:Int×Int}(h:i<s.length)(ar:off=i*2:=by omega):gD off (ib s) [.int .i64 x.1,.int .i64 x.2]=some (ib (s.set i x)):=by
 subst ar;rw[Cm _ _ _ (by rw[Yg];simp;omega),amp,show i*2+[(.int .i64 x.1:Value),.int .i64 x.2].length=(i+1)*2 by simp;omega,QQ,Mt,aE h,EO];show _=some (ib (s.take i)++([.int .i64 x.1,.int .i64 x.2]++ib (s.drop (i+1))));rw[gH]
theorem Acc.apU{e:TypeId}{sz k:Nat}{v:Value}{cells:List Value}{aY:aO}(h:Acc e sz v k cells aY)(bN:z0 aY)(aP:my aY):(∃b,v=.slice b 0 0/\k=0/\cells=[]/\aY=[])\/∃a rest,v=.slice (some ⟨a,0,none⟩) k c9/\aY=[(a,.opn cells e rest 0)]/\cells.length=k*sz:=by
 cases h with
 |nil=>exact .inl ⟨_,rfl,rfl,rfl,rfl⟩
 |kp a=>exact .inl ⟨_,rfl,rfl,rfl,rfl⟩
 |opn aa ae=>
  have:=bN _ _ _ _ _ (.head _);subst this;exact .inr ⟨_,_,rfl,rfl,aa⟩
 |cap=>exact absurd (.head _) (aP _ _ _)
section
variable {Q:dI Tryz.prog}{g0:Nat}{J:aI}
theorem apj{dd df ad cg:Nat}{g:bz}{aT aL:Option Addr}{aQ ci:Nat}{P:List Int}{cX a3:Nat}{s:List (Int×Int)}{v:Value}{aY:aO}{a:Nat}{k:Int}
 (aq:fG J g aT aQ aL ci)(hw:u2 J dd df ad cg g aT aQ aL ci P)(dn:g.ns.length<=2000)(a':a<g.ns.length)(af:s.length<=2000)(cw:Acc 145 2 v s.length (ib s) aY)(bN:z0 aY)(aP:my aY):
 Fn (bb Q g0) 109 [.int .i64 (a:Int),.int .i64 k,.pointer (some ⟨cX,0,none⟩),.pointer (some ⟨a3,0,none⟩)] ((cX,.row [v] 141)::(a3,.row [.pointer (some ⟨dd,0,none⟩)] 106)::aY) J (fun u m' ag=>J=ag/\u=.bool true/\∃v' hF,m'=(cX,.row [v'] 141)::(a3,.row [.pointer (some ⟨dd,0,none⟩)] 106)::hF/\Acc 145 2 v' (s.length+1) (ib (s++[(l5 g a,k)])) hF/\z0 hF/\my hF):=by
 obtain⟨_,fD⟩:=aq.n.at;have fW:addrEq aL aL=true:=aq.i.addr;have gn:addrEq aT aT=true:=aq.n.addr;have zn:=hw.w;obtain⟨bR,off,cells,bG,rfl,ms,jP⟩:=fD (by omega);obtain⟨y,cs,ai,gV,ir,ey⟩:=jP a (by omega) (by omega);obtain⟨bm,bt,bl,bw,b8,dh,rfl,eo,ga,gz⟩:=ey;have qj:=ir 2 _ (by decide) rfl;rw[cy] at ai;have tZ:l5 g a=y.i:=by unfold l5;rw[ai]
 obtain⟨bv,gJ,rfl⟩:=cw.form;have Cc:=cw.addr;refine Fn.cH (cQ Tryz.func109) rfl rfl fun H=>?_;refine rg ?_;refine I V.aA ?_;refine ns ?_;refine ab.draw rfl (by kernel_rfl) (bf:=[.val 0,.val 1,.val 2,.val 3,.val 4,.val 5,.val 6,.val 7,.val 8,.val 9,.val 10,.val 11,.gh 12,.cF [11,10,9,8,7,6,5,4,3,2,1,0],.bV 13,.bV 14]) (by kernel_rfl) ?_;refine an rfl V.aF ?_;refine an rfl V.aF ?_;refine cq ?_;refine an rfl V.aF ?_;refine an rfl V.ah ?_;refine an rfl V.aX ?_;refine an rfl V.bc ?_;refine an rfl V.aF ?_;refine an rfl V.ah ?_;refine an rfl V.jL ?_;refine a7.buildSlice rfl rfl rfl rfl rfl rfl (ET Q g0) rfl rfl rfl fun lP=>?_;refine a7.cF fC ?_;refine' a7.fO rfl rfl (Ai rfl rfl rfl rfl rfl rfl (ET Q g0) (Rt Q g0) (fun i q=>by cases q) ?cw ?hm ?U ?cr ?cc ?av fun I0 Lf Bc HU=>?_);case cw=>assumption
 case hm=>exact hR (l₁:=[_,_,_])
 case U=>exact hP
 case cr=>first|rfl|(simp;done)|(simp;omega)
 case cc=>first|rfl|exact hg _
 case av=>exact cf
 obtain⟨aqj,wM,rfl⟩:=Bc.form;refine kW rfl ?_;refine a7.nil ?_;refine ab.gB (hR (l₁:=[_,_,_])) ?_;refine rg ?_;refine I V.aA ?_;refine ns ?_;refine ab.ret ?_;refine'⟨.inr rfl,rfl,_,_,.tmp rfl .nil,.cons _ (bA _),⟨rfl,rfl,_,Lf,rfl,by rw[tZ,EO];exact Bc,HU.1 bN,HU.2 aP⟩⟩
def LN(s:List (Int×Int))(i:Nat)(cur:List (Int×Int)):Prop:=cur.length=s.length/\∀j,j<s.length->cur[j]?=if j<i\/s.length<=j+i then s[s.length -1 -j]? else s[j]?
theorem am4{s cur:List (Int×Int)}{i:Nat}{x y:Int×Int}(h:LN s i cur)(ao:i+i+1<s.length)(U:cur[i]?=some x)(ai:cur[s.length -1 -i]?=some y):LN s (i+1) ((cur.set i y).set (s.length -1 -i) x):=by
 obtain⟨aa,ae⟩:=h;refine⟨by rw[gu,gu];exact aa,fun j ba=>?_⟩;rw[ae i (by omega),ap (by omega)] at U;rw[ae _ (by omega),ap (by omega)] at ai;rw[kH,kH,gu,aa];by_cases bd:s.length -1 -i=j
 ·subst bd
  rw[aE rfl,aE (by omega),aE (by omega),show s.length -1 -(s.length -1 -i)=i by omega,U]
 ·rw[ap bd]
  by_cases a6:i=j
  ·subst a6
   rw[aE rfl,aE (by omega),aE (by omega),ai]
  ·rw[ap a6,ae j ba]
   by_cases b9:j<i\/s.length<=j+i
   ·rw[aE b9,aE (by omega)]
   ·rw[ap b9,ap (by omega)]
theorem am3{s cur:List (Int×Int)}{i:Nat}(h:LN s i cur)(ao:s.length<=i+i+1):cur=s.reverse:=by
 obtain⟨aa,ae⟩:=h;apply lp
 intro j;by_cases ba:j<s.length
 ·rw[ae j ba,List.getElem?_reverse ba]
  split
  ·rfl
  ·congr 1;omega
 ·rw[fx (by omega),fx (by rw[uT];omega)]
theorem am5{s:List (Int×Int)}{v:Value}{aY:aO}(af:s.length<=2000)(cw:Acc 145 2 v s.length (ib s) aY)(bN:z0 aY)(aP:my aY):
 Fn (bb Q g0) 110 [v] aY J (fun u m' ag=>J=ag/\Acc 145 2 v s.length (ib s.reverse) m'):=by
 have ar0:=cw;rcases cw.apU bN aP with⟨b,rfl,bD,_,rfl⟩|⟨a,rest,rfl,rfl,hlen⟩
 ·obtain rfl:s=[]:=s9.1 bD
  refine Fn.cH (cQ Tryz.func110) rfl rfl fun H=>?_;refine rg ?_;refine aM ?_;refine I V.bx ?_;refine aM ?_;refine ns ?_;refine ab.block ?_;refine' ab.c2 (l':=[(2,.int .i64 0),(3,.int .i64 (-1)),(0,_)]) ⟨?iD,?kE,rfl,trivial⟩ (bA _) ?_;case iD=>exact bS
  case kE=>exact bS
  refine aj ?_;refine' ab.dF (fun(i:Nat)=>⟨[(2,.int .i64 0),(3,.int .i64 (-1))],[],J,i=0,i⟩) (0) ?af ?bE;case af=>rfl
  case bE=>
   rintro i hinv;try simp only at hinv
   refine rg ?_;refine aM ?_;refine I V.a1 ?_;refine ns ?_;refine If (fun dR=>?_) fun dR=>?_
   ·exfalso;omega
   ·refine aj ?_;refine ab.exit ?_;refine'⟨.inl rfl,rfl,_,_,.nil,bA _,⟨rfl,cw⟩⟩
 ·refine Fn.cH (cQ Tryz.func110) rfl rfl fun H=>?_
  refine rg ?_;refine aM ?_;refine I V.bx ?_;refine aM ?_;refine ns ?_;refine ab.block ?_;refine' ab.c2 (l':=[(2,.int .i64 ((0):Int)),(3,.int .i64 ((s.length:Int) -1 -(0))),(0,_)]) ⟨?iD,?kE,rfl,trivial⟩ (bA _) ?_;case iD=>exact bS
  case kE=>exact bS
  refine aj ?_;refine' ab.dF (fun(bH:Nat×(List (Int×Int))×(List Nat))=>match bH with|(i,cur,nk)=>⟨[(2,.int .i64 (i:Int)),(3,.int .i64 ((s.length:Int) -1 -i))],[(a,.opn (ib cur) 145 nk 0)],J,i<=s.length/\LN s i cur,s.length -i⟩) ⟨0,s,rest⟩ ?af ?bE
  case af=>exact⟨cB _,rfl,fun j ba=>by rw[ap (by omega)]⟩
  case bE=>
   rintro⟨i,cur,nk⟩ hinv;try simp only at hinv
   obtain⟨ao,rB⟩:=hinv;refine rg ?_;refine aM ?_;refine I V.a1 ?_;refine ns ?_;refine If (fun dR=>?_) fun dR=>?_
   ·have k8:=rB.1;have U:=de (l:=cur) (i:=i) (by omega);have ai:=de (l:=cur) (i:=s.length -1 -i) (by omega);generalize cur[i]'(by omega)=x at U;generalize cur[s.length -1 -i]'(by omega)=y at ai;refine c5 ?_;refine aj ?_;refine ab.block ?_;refine aj ?_;refine ab.draw rfl (by kernel_rfl) (bf:=[.val 0,.val 1,.val 2,.val 3,.val 4,.val 5,.val 6,.val 7,.val 8,.val 9,.val 10,.val 11,.val 12,.bV 13,.val 14,.cF [3,2],.bV 15]) (by kernel_rfl) ?_;refine cq ?_;refine an rfl V.aX ?_;refine' a7.val rfl rfl rfl rfl (gY rfl rfl ?ay (l8 (eV rfl) ?az)) ?_;case ay=>exact qr
    case az=>exact Yf ai
    refine cq ?_;refine an rfl V.aX ?_;refine' a7.val rfl rfl rfl rfl (gY rfl rfl ?ay (l8 (eV rfl) ?az)) ?_;case ay=>exact qr
    case az=>exact Yf U
    refine an rfl V.aX ?_;refine' a7.fO rfl rfl (Aj rfl rfl rfl rfl (fY rfl) rfl rfl rfl ?aa ?af ?bN ?aw ?_);case aw=>exact .refl _
    case af=>exact Yh (i:=i) (by omega)
    case aa=>first|rfl|assumption
    case bN=>exact cB _
    refine an rfl V.aX ?_;refine a7.cF fC ?_;refine' a7.fO rfl rfl (Aj rfl rfl rfl rfl (fY rfl) rfl rfl rfl ?aa ?af ?bN ?aw ?_);case aw=>exact .refl _
    case af=>exact Yh (i:=s.length -1 -i) (by rw[gu];omega)
    case aa=>first|rfl|assumption
    case bN=>exact cB _
    refine a7.nil ?_;refine rg ?_;refine I V.ah ?_;refine I V.bx ?_;refine I V.ah ?_;refine I V.bx ?_;refine aM ?_;refine a8 ?_;refine cA ⟨i+1,(cur.set i y).set (s.length -1 -i) x,[]⟩ ?_;exact⟨by omega,am4 rB (by omega) U ai⟩
   ·refine aj ?_;refine ab.exit ?_;refine'⟨.inl rfl,rfl,_,_,.nil,bA _,?_⟩;refine⟨rfl,?_⟩;rw[<-am3 rB (by omega)];exact .opn (by rw[Yg,rB.1]) (cB _)
end
theorem Ny{J:aI}{e:TypeId}{v:Value}{s:List (Int×Int)}(h:hL J e 2 v s.length (ib s)):fa J e 2 uS v s:=by
 refine⟨ib s,h,fun i x U=>?_⟩;have ao:=(dX.1 U).1;rw[QQ,mO ao];have:s[i]=x:=by rw[de ao] at U;injection U
 rw[this];rfl
theorem aoX{g:bz}:∀{l:List (Nat×Int)} {s:List (Int×Int)},Ad (fun(s:List (Int×Int)) a k=>(s++[(l5 g a,k)],true)) s l=s++l.map fun x=>(l5 g x.1,x.2):=by
 intro l;induction l with
 |nil=>intro s;simp[Ad]
 |cons x l aK=>
  intro s;show(if true=true then _ else _)=_;rw[aE rfl];show Ad _ (s++[(l5 g x.1,x.2)]) l=_;rw[aK,nR,gH];rfl
section
variable {Q:dI Tryz.prog}{g0:Nat}{J:aI}
theorem RC{dd df ad cg:Nat}{g:bz}{aT aL:Option Addr}{aQ ci:Nat}{P:List Int}{dU:Nat}{p:Int}
 (aq:fG J g aT aQ aL ci)(hw:u2 J dd df ad cg g aT aQ aL ci P)(aD:Tree g P)(dn:g.ns.length<=2000)(nJ:∀x∈g.ns,x.ak.length<=60)(ho:dU<g.ns.length):
 Fn (bb Q g0) 97 [.pointer (some ⟨dd,0,none⟩),.int .i64 (dU:Int),.int .i64 p] [] J (fun u m' ag=>∃b c,u=.slice b (gF g P p dU).length c/\m'=[]/\J.le ag/\fa ag 145 2 uS (.slice b (gF g P p dU).length c) (gF g P p dU)):=by
 have xH:(jU g P p dU).length<=2000:=by
  have:=zD (g:=g) (P:=P) (p:=p) dU dU (cZ _);unfold jU;rw[mc];omega
 refine Fn.cH (cQ Tryz.func97) rfl rfl fun H=>?_;refine rg ?_;refine dJ fun a3=>?_;refine I V.aA ?_;refine bj ?_;refine' W.step rfl (.of (e4 rfl rfl rfl (apI Q g0) rfl rfl rfl fun cX=>?_));refine bj ?_;refine I V.aF ?_;refine aM ?_;refine cl (G:=SF (σ:=List (Int×Int)) (step:=fun s a k=>(s++[(l5 g a,k)],true)) (te:=fun c s ah=>∃v aY,ah=(cX,.row [v] 141)::(a3,.row [.pointer (some ⟨dd,0,none⟩)] 106)::aY/\Acc 145 2 v s.length (ib s) aY/\z0 aY/\my aY/\s.length+c<=2000) (rR:=[]) aq hw aD dn nJ (fun c a s ah c4 ⟨v,aY,aa,ae,aG,br,eu⟩=>⟨v,aY,aa,ae,aG,br,by omega⟩) (fun c a s ah k c4 tT ⟨v,aY,aa,ae,aG,br,eu⟩=>by subst aa;exact(apj aq hw dn (by omega) (by omega) ae aG br).perm fun u m' ag ⟨bd,a6,v',hF,b9,fN,kd,qE⟩=>⟨m',.refl _,bd,a6,v',hF,b9,by simpa using fN,kd,qE,by simp;omega⟩) ho ⟨_,[],rfl,.nil,fun _ _ _ _ _ q=>(by cases q),fun _ _ _ q=>(by cases q),by simp;omega⟩) (h:=?_);rintro v m' ag hle ⟨rfl,c,v2,H9,rfl,Bb,lc,ah7,_⟩;refine a8 ?_;rw[gg];rw[aoX,me,show((o1 g P p dU).map fun x=>(l5 g x.1,x.2))=jU g P p dU from rfl] at Bb;obtain⟨bl,bC,rfl⟩:=Bb.form;refine rg ?_;refine I V.aF ?_;refine' W.step rfl (Exec.call rfl rfl rfl rfl rfl rfl rfl (bh:=H9) (bW:=[_,_]) (hR (l₂:=[_,_])) trivial (am5 xH Bb lc ah7) ?_);rintro v m3 ag hle ⟨rfl,Vi⟩;refine a8 ?_;rw[show(jU g P p dU).reverse=gF g P p dU from rfl,show(jU g P p dU).length=(gF g P p dU).length by rw[gF,uT]] at Vi;refine Vi.hx (.refl _) fun eZ cE k'=>?_;refine rg ?_;refine I V.aF ?_;refine I V.aA ?_;refine ns ?_;refine ab.ret ?_;refine c' ?_
 exact⟨_,_,by rw[show(gF g P p dU).length=(jU g P p dU).length by rw[gF,uT]];rfl,rfl,cE,Ny k'⟩
theorem ad7{bm bl:Option Addr}{bt bw:Nat}{cU ee:List (Int×Int)}(aa:fa J 145 2 uS (.slice bm cU.length bt) cU)(ae:fa J 145 2 uS (.slice bl ee.length bw) ee)(av:cU.length<=1000000):
 Fn (bb Q g0) 111 [.slice bm cU.length bt,.slice bl ee.length bw] [] J (fun u m' ag=>u=.bool (decide (cU=ee))/\m'=[]/\J=ag):=by
 obtain⟨_,Bh⟩:=aa.at;obtain⟨_,vA⟩:=ae.at;refine Fn.cH (cQ Tryz.func111) rfl rfl fun H=>?_;refine rg ?_;refine I V.aA ?_;refine bj ?_;refine aM ?_;refine I V.a1 ?_;refine ns ?_;refine If (fun eE=>?_) fun eE=>?_
 ·refine rg ?_;refine I V.aA ?_;refine ns ?_;refine ab.ret ?_;refine c' ?_;refine⟨cC Value.bool ?_,rfl,rfl⟩;first
   |(have c:=bB;symm;rw[lS]
     apply lp
     intro j;by_cases q:j<i
     ·exact bB j q
     ·rw[fx (by omega),fx (by omega)])
   |(symm;rw[mm];intro q;rw[q] at eE;exact eE rfl)
 ·refine aj ?_;refine ab.skip ?_;refine rg ?_;refine aM ?_;refine ns ?_;refine ab.block ?_;refine' ab.c2 (l':=[(13,.int .i64 ((0):Int)),(0,_),(1,_),(12,_)]) ⟨?rY,rfl,rfl,rfl,trivial⟩ (bA _) ?_;case rY=>exact bS
  refine aj ?_;refine' ab.rG (α:=(Nat)) (fun(i:Nat)=>[(13,.int .i64 (i:Int))]) (fun(i:Nat)=>i<=cU.length/\∀j,j<i->cU[j]?=ee[j]?) (fun(i:Nat)=>cU.length -i) (0) ?af ?bE;case af=>exact⟨cB _,fun j ba=>by omega⟩
  case bE=>
   rintro i hinv;try simp only at hinv
   obtain⟨ao,bB⟩:=hinv;refine rg ?_;refine I V.a1 ?_;refine ns ?_;refine If (fun ly=>?_) fun ly=>?_
   ·obtain⟨bo,uv,M9,aN,rfl,GQ,pt⟩:=Bh (by omega);obtain⟨a2,vV,M',bn,rfl,GR,oS⟩:=vA (by omega);obtain⟨x,cs,U,y9,_,rfl⟩:=pt i (by omega) (by omega);obtain⟨y,cs,ai,Vx,_,rfl⟩:=oS i (by omega) (by omega);rw[cy] at U ai;refine c5 ?_;refine aj ?_;refine ab.block ?_;refine rg ?_;refine aM ?_;refine ns ?_;refine ab.draw rfl (by kernel_rfl) (bf:=[.val 0,.val 1,.val 2,.val 3,.val 4,.val 5,.val 6,.val 7,.val 8]) (by kernel_rfl) ?_;refine cq ?_;refine an rfl V.aX ?_;refine an rfl V.c8 ?_;refine cq ?_;refine an rfl V.aX ?_;refine an rfl V.c8 ?_;refine' a7.val rfl rfl rfl rfl (ZI rfl (.inr ⟨rfl,rfl⟩) rfl rfl (by kernel_rfl)) ?_;refine a7.nil ?_;refine aj ?_;refine If (fun nY=>?_) fun nY=>?_
    ·refine rg ?_;refine I V.aA ?_;refine ns ?_;refine ab.ret ?_;refine c' ?_;refine⟨cC Value.bool ?_,rfl,rfl⟩;first
       |(have c:=nY;symm;rw[mm];intro q;subst q;rw[U] at ai;injection ai with ai;subst ai;exact nY ⟨rfl,rfl⟩)
       |(have c:=bB;symm;rw[lS]
         apply lp
         intro j;by_cases q:j<i
         ·exact bB j q
         ·rw[fx (by omega),fx (by omega)])
       |(symm;rw[mm];intro q;rw[q] at eE;exact eE rfl)
    ·refine aj ?_;refine ab.skip ?_;refine rg ?_;refine I V.bx ?_;refine I V.ah ?_;refine a8 ?_;refine'⟨(i+1),_,?hinv,?kw,rfl,⟨?m13,rfl,rfl,rfl,trivial⟩,bA _,rfl⟩;case m13=>exact bS
     case kw=>exact cf
     case hinv=>refine⟨by omega,fun j ba=>?_⟩;by_cases q:j<i;(exact bB j q);(obtain rfl:j=i:=by omega);(rw[U,ai];have c:=gP.1 nY;exact cC some (Prod.ext c.1 c.2))
   ·refine aj ?_;refine ab.exit ?_;refine rg ?_;refine I V.aA ?_;refine ns ?_;refine ab.ret ?_;refine c' ?_;refine⟨cC Value.bool ?_,rfl,rfl⟩;first
     |(have c:=bB;symm;rw[lS]
       apply lp
       intro j;by_cases q:j<i
       ·exact bB j q
       ·rw[fx (by omega),fx (by omega)])
     |(symm;rw[mm];intro q;rw[q] at eE;exact eE rfl)
theorem Ue{bm bl:Option Addr}{bt bw:Nat}{cU ee:List (Int×Int)}(aa:fa J 145 2 uS (.slice bm cU.length bt) cU)(ae:fa J 145 2 uS (.slice bl ee.length bw) ee)(av:cU.length<=1000000):
 Fn (bb Q g0) 100 [.slice bm cU.length bt,.slice bl ee.length bw] [] J (fun u m' ag=>u=.bool (decide (cU=ee))/\m'=[]/\J=ag):=by
 refine Fn.cH (cQ Tryz.func100) rfl rfl fun H=>?_;refine rg ?_;refine I V.aA ?_;refine bj ?_;refine aM ?_;refine cl (G:=ad7 aa ae av) (h:=?_);rintro v m' ag hle ⟨rfl,rfl,rfl⟩;refine I V.aA ?_;refine ns ?_;refine ab.ret ?_;refine c' ?_;exact⟨rfl,rfl,rfl⟩
end
section
variable {Q:dI Tryz.prog}{g0:Nat}{J:aI}
theorem akv{dd df ad cg:Nat}{g:bz}{aT aL:Option Addr}{aQ ci:Nat}{P:List Int}(aq:fG J g aT aQ aL ci)(hw:u2 J dd df ad cg g aT aQ aL ci P)(dn:g.ns.length<=2000)(i2:g.is.length<=200)(aP:∀x∈g.ns,ev g x=0):
 Fn (bb Q g0) 84 [.pointer (some ⟨dd,0,none⟩)] [] J (fun u m' ag=>∃b c,u=.slice b (gC g).length c/\m'=[]/\J.le ag/\fa ag 22 1 (jI ag) (.slice b (gC g).length c) (gC g)):=by
 obtain⟨_,fD⟩:=aq.n.at;have fW:addrEq aL aL=true:=aq.i.addr;have gn:addrEq aT aT=true:=aq.n.addr;have zn:=hw.w;refine Fn.cH (cQ Tryz.func84) rfl rfl fun H=>?_;refine rg ?_;refine I V.aA ?_;refine bj ?_;refine aM ?_;refine I V.aF ?_;refine I V.bP ?_;refine' W.step rfl (.of (pT rfl rfl rfl rfl rfl (nl Q g0) ?bD ?aa ?ae fun a12=>?_));case bD=>exact cf
 case aa=>exact cf
 case ae=>exact cf
 refine I V.aA ?_;refine a8 ?_;rw[CB,cy];refine rg ?_;refine aM ?_;refine I V.aF ?_;refine aM ?_;refine ns ?_;refine ab.block ?_;refine' ab.c2 (l':=[(19,.int .i64 ((0):Int)),(3,_),(17,_),(18,_)]) ⟨?IY,rfl,rfl,rfl,trivial⟩ (bA _) ?_;case IY=>exact bS
 refine aj ?_;refine' ab.dF (fun(bH:Nat×(List Value)×(List aO)×aO)=>match bH with|(i,vs,hX,sn)=>⟨[(19,.int .i64 (i:Int))],(a12,.row vs 22)::(sn++[]),J,i<=g.ns.length/\qK 3 (qH g i) vs hX/\sn=hX.flatten,g.ns.length -i⟩) ⟨0,List.replicate g.is.length (.slice none 0 0),List.replicate g.is.length [],[]⟩ ?af ?bE
 case af=>exact⟨cB _,by rw[Y3];exact qK.init _,Uz.symm⟩
 case bE=>
  rintro⟨i,vs,hX,sn⟩ hinv;try simp only at hinv
  obtain⟨ao,h9,iK⟩:=hinv;refine rg ?_;refine I V.a1 ?_;refine ns ?_;refine If (fun wM=>?_) fun wM=>?_
  ·obtain⟨a,off,cells,bG,rfl,ms,ec⟩:=fD (by omega);obtain⟨x,cs,U,gV,_,ey⟩:=ec i (by omega) (by omega);obtain⟨bm,bt,bl,bw,b8,dh,rfl,eo,ga,gz⟩:=ey;rw[cy] at U;have e1:=U;have e0:=aP x (cd e1);refine c5 ?_;refine aj ?_;refine ab.block ?_;refine rg ?_;refine I V.ah ?_;refine I V.aX ?_;refine I V.c8 ?_;refine' W.step rfl (.of (e4 rfl rfl rfl (om Q g0) rfl rfl rfl fun a5=>?_));refine I V.aA ?_;refine dN ?_;refine bj ?_;refine I V.bc ?_;refine I V.aF ?_;refine I V.a1 ?_;refine ns ?_;refine If (fun ny=>?_) fun ny=>?_
   ·have ua:=Im e0 (by simpa using ny);obtain⟨v,aY,PS,Pf,cw⟩:=h9.get (IM (g:=g) (i:=i) (j:=x.i.toNat) (by omega));rw[show((x.i.toNat:Nat):Int)=x.i by omega] at cw;obtain⟨bv,gJ,rfl⟩:=cw.form;have Cc:=cw.addr;have Po:nth vs (0+x.i.toNat*1)=some (.slice bv (eJ x.i 0 (g.ns.take i)).length gJ):=XB PS;have hlen:(eJ x.i 0 (g.ns.take i)).length<=2000:=by have:=LV (j:=x.i) (l:=g.ns.take i) (n:=0);rw[h1] at this;omega
    have xG:vs.length=g.is.length:=by rw[h9.lv,zV]
    have Pg:hX.length=g.is.length:=by rw[h9.zA,zV]
    refine aj ?_;refine ab.draw rfl (by kernel_rfl) (bf:=[.val 0,.val 1,.val 2,.val 3,.val 4,.val 5,.val 6,.val 7,.val 8,.gh 9,.cF [8,7,6,5,4,3,2,1,0],.bV 10,.val 11,.cF [2,1,0],.bV 12]) (by kernel_rfl) ?_;refine cq ?_;refine an rfl V.aF ?_;refine cq ?_;refine an rfl V.aF ?_;refine an rfl V.aX ?_;refine an rfl V.aF ?_;refine an rfl V.ah ?_;refine a7.buildSlice rfl rfl rfl rfl rfl rfl (eX Q g0) rfl rfl rfl fun Ax=>?_;refine a7.cF fC ?_;refine' a7.fO rfl rfl (kf rfl rfl rfl rfl rfl rfl (eX Q g0) (pO Q g0) (fun i q=>by cases q) ?cw ?hm ?U ?cr ?cc ?av fun Z5 xQ xf=>?_);case cw=>assumption
    case hm=>exact CX (by rw[iK];exact NJ Pf)
    case U=>exact hP
    case cr=>first|rfl|(simp;done)|(simp;omega)
    case cc=>first|rfl|exact hg _
    case av=>exact cf
    obtain⟨abl,hS,rfl⟩:=xf.form;refine an rfl V.aX ?_;refine a7.cF fC ?_;refine' a7.fO rfl rfl (hz rfl rfl rfl rfl (fY rfl) rfl rfl rfl ?aa ?af ?aw ?_);case aw=>repeat first|exact .head _ _ _ _|apply cR.tail|apply cR.app
    case af=>exact Y9 (j:=x.i.toNat) (by omega)
    case aa=>first|rfl|assumption
    refine a7.nil ?_;first
      |(have BE:=xf;refine ab.gB (CX (J' (j:=x.i.toNat) (l:=hX) (by omega))) ?_)
      |skip
    refine rg ?_;refine I V.bx ?_;refine I V.ah ?_;refine a8 ?_;refine cA ⟨i+1,vs.set x.i.toNat _,hX.set x.i.toNat xQ,(hX.set x.i.toNat xQ).flatten⟩ ?_ (hm:=.cons _ (.cons _ (.refl _)));refine⟨by omega,?_,rfl⟩;rw[Y2 e1 (by simpa using ny) ua.1 ua.2.1];exact h9.set (by simpa using xf)
   ·refine aj ?_;refine ab.skip ?_;first
      |(have BE:=xf;refine ab.gB (CX (J' (j:=x.i.toNat) (l:=hX) (by omega))) ?_)
      |skip
    refine rg ?_;refine I V.bx ?_;refine I V.ah ?_;refine a8 ?_;refine cA ⟨i+1,vs,hX,sn⟩ ?_ (hm:=.cons _ (.refl _));refine⟨by omega,by rw[Y1 e1 (by simpa using ny)];exact h9,iK⟩
  ·refine aj ?_;refine ab.exit ?_;have hi':i=g.ns.length:=by omega
   rw[hi',Y0] at h9;refine ab.Yk h9 (m0:=(a12,.row vs 22)::[]) (by rw[iK];exact List.perm_middle.symm) fun eZ cE bB=>?_;refine ab.mD rfl fun dV=>?_;have jO:=Ua (aI.oy eZ a12 (vs,22)) h9.lv (by rw[uG];unfold c9;omega) fun j s v aa ae=>(bB j s v aa ae).mono dV;refine rg ?_;refine aM ?_;refine ns ?_;refine ab.ret ?_;refine c' ?_;exact⟨some ⟨a12,0,none⟩,(gC g).length,by rw[uG];rfl,rfl,cE.trans dV,jO⟩
theorem QL{a9:Nat}{b:Bool}{k x y z:Int}:
 Fn (bb Q g0) 83 [.agg #[.int .i64 k,.int .i64 x,.int .i64 y,.int .i64 z],.pointer (some ⟨a9,0,none⟩)] [(a9,.row [.bool b] 4)] J (fun u m' ag=>u=.bool (decide (k≠2))/\m'=[(a9,.row [.bool (decide (k≠2))] 4)]/\J=ag):=by
 refine Fn.cH (cQ Tryz.func83) rfl rfl fun H=>?_;refine rg ?_;refine dJ fun a2=>?_;refine I V.aA ?_;refine bj ?_;refine I V.bc ?_;refine I V.aF ?_;refine I V.a1 ?_;refine dN ?_;refine bj ?_;refine I V.aF ?_;refine I V.aA ?_;refine ns ?_;refine ab.ret ?_;refine'⟨.inr rfl,rfl,_,_,.tmp rfl .nil,.cons _ (.refl _),⟨rfl,rfl,rfl⟩⟩
theorem ann{dd df ad cg:Nat}{g:bz}{aT aL:Option Addr}{aQ ci:Nat}{P:List Int}{kJ a4 a3:Nat}{d info k:Int}{fv:Value}{a:Nat}
 (aq:fG J g aT aQ aL ci)(hw:u2 J dd df ad cg g aT aQ aL ci P)(dn:g.ns.length<=2000)(a':a<g.ns.length)(az:eQ fv=true):
 Fn (bb Q g0) 99 [.int .i64 (a:Int),.int .i64 k,.pointer (some ⟨a3,0,none⟩),.pointer (some ⟨a4,0,none⟩),.pointer (some ⟨kJ,0,none⟩)] [(kJ,.row [.int .i64 d] 3),(a4,.row [.int .i64 info] 3),(a3,.row [.pointer (some ⟨dd,0,none⟩),fv] 153)] J
  (fun u m' ag=>J=ag/\u=.bool (decide ((if l5 g a=info then(a:Int) else d)<0))/\m'=[(kJ,.row [.int .i64 (if l5 g a=info then(a:Int) else d)] 3),(a4,.row [.int .i64 info] 3),(a3,.row [.pointer (some ⟨dd,0,none⟩),fv] 153)]):=by
 obtain⟨_,fD⟩:=aq.n.at;have fW:addrEq aL aL=true:=aq.i.addr;have gn:addrEq aT aT=true:=aq.n.addr;have zn:=hw.w;obtain⟨bR,off,cells,bG,rfl,ms,jP⟩:=fD (by omega);obtain⟨y,cs,ai,gV,ir,ey⟩:=jP a (by omega) (by omega);obtain⟨bm,bt,bl,bw,b8,dh,rfl,eo,ga,gz⟩:=ey;have qj:=ir 2 _ (by decide) rfl;rw[cy] at ai;have tZ:l5 g a=y.i:=by unfold l5;rw[ai]
 refine Fn.cH (cQ Tryz.func99) rfl rfl fun H=>?_;refine rg ?_;refine I V.aA ?_;refine ns ?_;refine ab.draw rfl (by kernel_rfl) (bf:=[.val 0,.val 1,.val 2,.val 3,.val 4,.val 5,.val 6,.val 7,.val 8,.val 9,.val 10,.val 11]) (by kernel_rfl) ?_;refine an rfl V.bc ?_;refine an rfl V.aF ?_;refine cq ?_;refine an rfl V.aF ?_;refine an rfl V.ah ?_;refine an rfl V.aX ?_;refine an rfl V.bc ?_;refine an rfl V.aF ?_;refine an rfl V.aF ?_;refine an rfl V.a1 ?_;refine a7.nil ?_;refine aj ?_;refine If (fun hB=>?_) fun hB=>?_
 ·refine rg ?_;refine I V.ah ?_;refine dN ?_;refine bj ?_;refine I V.aF ?_;refine I V.a1 ?_;refine I V.aA ?_;refine ns ?_;refine ab.ret ?_;refine'⟨.inr rfl,rfl,_,_,.tmp rfl .nil,bA _,?_⟩;rw[tZ];first
   |(have c:=hB;rw[aE hB];exact⟨rfl,rfl,rfl⟩)
   |(rw[ap hB];exact⟨rfl,rfl,rfl⟩)
 ·refine aj ?_;refine ab.skip ?_;refine rg ?_;refine I V.aF ?_;refine I V.a1 ?_;refine I V.aA ?_;refine ns ?_;refine ab.ret ?_;refine'⟨.inr rfl,rfl,_,_,.tmp rfl .nil,bA _,?_⟩;rw[tZ];first
   |(have c:=hB;rw[aE hB];exact⟨rfl,rfl,rfl⟩)
   |(rw[ap hB];exact⟨rfl,rfl,rfl⟩)
end
end
end Go.Opn

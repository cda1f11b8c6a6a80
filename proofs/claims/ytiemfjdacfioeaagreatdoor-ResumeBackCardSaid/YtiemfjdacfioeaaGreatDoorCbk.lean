/- A part of the proof of ResumeBack. -/
import Derived.Test.YtiemfjdacfioeaaGreatDoorCbj
import Derived.Test.YtiemfjdacfioeaaGreatDoorCbf
import Derived.Test.YtiemfjdacfioeaaGreatDoorCbd
import Derived.Test.YtiemfjdacfioeaaGreatDoorCbe
import Derived.Test.YtiemfjdacfioeaaGreatDoorCbg
set_option maxRecDepth 100000
set_option maxHeartbeats 8000000
set_option linter.unusedVariables false
set_option linter.unusedSimpArgs false
namespace Go.Opn
noncomputable section
open Go.Cre Go.RowKit Go.Proofs
theorem hk.hx{K:eL}{B:ea}{m:aO}{J:aI}{c0:Exit->cn->aO->aI->Prop}{c:Code}{e:TypeId}{sz k:Nat}{v:Value}{cells:List Value}{aY m0:aO}{E:cn}(h:hk e sz v k cells aY)(hm:m.Perm (aY++m0))(aU:∀ag,J.le ag->hL ag e sz v k cells->ab K B c E m0 ag c0):ab K B c E m J c0:=by
 rcases h with⟨h,_,_⟩|⟨a,full,rest,rfl,rfl,aG,br,eu⟩
 ·exact Acc.hx h hm aU
 ·refine ab.gB hm.symm ?_
  refine ab.mD (x:=(full,e)) rfl fun hle=>?_;exact aU _ hle (.row (aI.oy _ _ _) (by rw[mP];exact br) (by rw[<-br,h1];omega) (fun q=>absurd rfl q) (fun _=>rfl))
def uq(pl:Nat):Nat->List Int->List en×List Int
 |0,l=>([],l)
 |k+1,l=>(⟨eh l (pl+1) -1,2+eh (fX l (pl+1)) 2,eh (fX (fX l (pl+1)) 2) 16⟩::(uq pl k (fX (fX (fX l (pl+1)) 2) 16)).1,(uq pl k (fX (fX (fX l (pl+1)) 2) 16)).2)
theorem Xa{pl:Nat}:∀{k:Nat} {l:List Int},Ju pl (uq pl k l).1/\(uq pl k l).1.length=k:=by
 intro k;induction k with
 |zero=>intro l;exact⟨fun p h=>(by cases h),rfl⟩
 |succ k aK=>
  intro l;obtain⟨aa,ae⟩:=@aK (fX (fX (fX l (pl+1)) 2) 16);refine⟨fun p aw=>?_,by show _+1=_;rw[ae]⟩;rcases fg.1 aw with rfl|aw
  ·have bo:=pB (l:=l) (n:=(pl:Int)+1) (by omega)
   have a2:=pB (l:=fX l (pl+1)) (n:=2) (by omega);have a3:=pB (l:=fX (fX l (pl+1)) 2) (n:=16) (by omega);exact⟨by show -1<=eh l (pl+1) -1;omega,by show eh l (pl+1) -1<_;omega,by show 2<=2+eh _ _;omega,by show 2+eh _ _<=3;omega,a3.1,by show eh _ _<=15;omega⟩
  ·exact aa p aw
def H6(pl:Nat)(l:List Int):List en:=(uq pl (1+eh l 5).toNat (fX l 5)).1
def vr (aY:Int)(pl:Nat)(l:List Int):bz:=oK aY pl (H6 pl l) (uq pl (1+eh l 5).toNat (fX l 5)).2
theorem ad2{J:aI}{a n:Nat}(h:J a=some (List.replicate n (Value.slice none 0 0),22))(aP:n<=100):fa J 22 1 (jI J) (.slice (some ⟨a,0,none⟩) (List.replicate n ([]:List Int)).length n) (List.replicate n []):=by
 refine⟨List.replicate n (Value.slice none 0 0),?_,fun i x U=>?_⟩
 ·rw[qU]
  exact .row h (by rw[mP,et (by simp)]) (by simp) (fun _=>⟨cZ _,wu aP (by decide)⟩) (fun _=>rfl)
 ·have ao:=eT U
  rw[qU] at ao;have ky:=cd U;rw[List.mem_replicate] at ky;obtain rfl:=ky.2;rw[List.drop_replicate,List.take_replicate,mf (by omega)];exact⟨none,0,rfl,3,.nil⟩
section
variable {Q:dI Tryz.prog}{g0:Nat}{am ad:Nat}{s:Bool}{aY:Int}{pl:Nat}{c1:Option Addr}{cl:Nat}{l:List Int}{bX:List en}{r8:Option Addr}{nB:Nat}
theorem abz(hE:l.length<=1000000)(dO:pl<=4)(zd:aY<=1000)(j5:Ju pl bX)(Of:bX.length<=100):∀(lv:List en) (L:Nat),bX.drop L=lv->L<=bX.length->Mm Q g0 am ad s aY pl c1 cl l bX r8 nB lv L:=by
 intro lv;induction lv with
 |nil=>intro L aZ bT;exact Th hE dO zd j5 Of aZ bT fun p kb q=>by cases q
 |cons p r aK=>
  intro L aZ bT;refine Th hE dO zd j5 Of aZ bT fun hO kb q=>?_;injection q with bd a6;subst a6
  obtain⟨aa,_,aG⟩:=Nt aZ;exact aK (L+1) aG aa
theorem Xt{J:aI}{F:List Fm}{n:Int}{a:Nat}(fQ:∀x∈F,∃(bY:Nat) (nL:Int),x=⟨30,[.pointer (some ⟨ad,0,none⟩),.int .i64 nL],[j3 ad c1 cl l bY],J,fun u m' ag=>u=.int .i64 (eh (l.drop bY) nL)/\m'=[j3 ad c1 cl l (kK l bY nL)]/\J=ag,false⟩):
 ∀x∈F,x.f=30->x.b6=[.pointer (some ⟨ad,0,none⟩),.int .i64 n]->(x.bh=[j3 ad c1 cl l a]/\x.J=J/\x.eO=fun u m' ag=>u=.int .i64 (eh (l.drop a) n)/\m'=[j3 ad c1 cl l (kK l a n)]/\J=ag)\/(∀H,Inv (bb Q g0).g0 (lg x.bh H x.J) x.J x.bh H->Inv (bb Q g0).g0 (lg [j3 ad c1 cl l a] H J) J [j3 ad c1 cl l a] H->False)\/x.new=true:=by
 intro x U _ aP;obtain⟨bY,nL,rfl⟩:=fQ x U;injection aP with _ aP
 injection aP with aP _
 injection aP with _ aP
 subst aP;by_cases h:bY=a
 ·subst h;exact .inl ⟨rfl,rfl,rfl⟩
 ·refine .inr (.inl fun H aa ae=>h ?_)
  have:=ajT aa ae;injection this with _ this
  injection this with this _
  injection this with _ this
  omega
theorem X'{α:Type}{x y z u:α}{v:List α}:(x::y::z::u::v).Perm (v++[x,y,z,u]):=(hR (l₁:=[x,y,z,u]))
theorem al0{α:Type}{x y z u:α}{v:List α}:((z::y::u::v)++[x]).Perm (v++[x,y,z,u]):=by
 refine(hR (l₂:=[x])).trans ?_;exact((List.Perm.swap y z _).cons x).trans X'
theorem al1{α:Type}{x y z:α}{v:List α}:(x::y::z::v).Perm (v++[x,y,z]):=(hR (l₁:=[x,y,z]))
theorem ME{e:TypeId}{sz:Nat}:hk e sz (.slice none 0 0) 0 [] []:=.inl ⟨.nil,(fun _ _ _ _ _ h=>by cases h),(fun _ _ _ h=>by cases h)⟩
theorem al2{α:Type}{x y z:α}{u v w:List α}:((x::y::(u++(v++w)))++[z]).Perm (v++(z::x::y::(u++w))):=
 (hR (l₂:=[z])).trans QO
theorem al3{α:Type}{x y z:α}{u w:List α}:(z::x::y::(u++w)).Perm (w++(z::x::y::u)):=hR (l₁:=z::x::y::u)
theorem afA{J:aI}(av:dG J (.slice c1 l.length cl) l)(hE:l.length<=1000000)(zh:1<=pl)(dO:pl<=4)(VT:1<=aY)(zd:aY<=1000):
 Fn (bb Q g0) 12 [.slice c1 l.length cl,.int .i64 (pl:Int),.int .i64 aY,.bool false] [] J (fun u m' ag=>J.le ag/\m'=[]/\∃aT aQ aL ci,u=hc (vr aY pl l) aT aQ aL ci/\fG ag (vr aY pl l) aT aQ aL ci):=by
 have aiP:=pB (l:=l) (n:=5) (by omega);refine Fn.cH (cQ Tryz.func12) rfl rfl fun H=>?_;refine rg ?_;refine' W.step rfl (.of (e4 rfl rfl rfl (Mg Q g0) rfl rfl rfl fun hs=>?_));refine bj ?_;refine aM ?_;refine dJ fun yA=>?_;refine aM ?_;refine dJ fun u4=>?_;refine I V.aA ?_;refine bj ?_;refine aM ?_;refine dN ?_;refine bj ?_;refine aM ?_;refine I V.aF ?_;refine' W.step rfl (Exec.call rfl rfl rfl rfl rfl rfl rfl (bh:=[j3 _ c1 cl l 0]) (bW:=[_,_]) (List.Perm.swap _ _ _) trivial (BW av hE (cB _) (by decide)) ?_);rintro v m' ag hle ⟨rfl,rfl,rfl⟩;rw[mP];refine I V.bx ?_;refine I V.aA ?_;refine ns ?_;refine ab.block ?_;refine aj ?_;refine ab.gB (List.Perm.swap _ _ _) ?_;refine' ab.c2 (l':=[(10,.int .i64 (((1+eh l 5).toNat):Int)),(1,_),(8,_),(9,_)]) ⟨?pQ,rfl,rfl,rfl,trivial⟩ (bA _) ?_;case pQ=>exact bS
 refine aj ?_;refine' ab.dF (fun(bH:Nat×(List en)×Nat×Value×(List Value)×aO)=>match bH with|(k,bX,a,gZ,cells,Ev)=>⟨[(10,.int .i64 (k:Int))],(u4,.row (vQ yA gZ (.slice none 0 0) aY 1 false false pl (.slice none 0 0) (.slice none 0 0)) 85)::j3 yA c1 cl l a::(hs,.row [.int .i64 0,.slice none 0 0,.slice none 0 0] 27)::Ev,J,k<=5/\uq pl (1+eh l 5).toNat (fX l 5)=(bX++(uq pl k (l.drop a)).1,(uq pl k (l.drop a)).2)/\a<=l.length/\bX.length+k<=5/\Acc 88 3 gZ bX.length cells Ev/\hr 3 (fun _=>Jx) cells bX,k⟩) ⟨(1+eh l 5).toNat,[],kK l 0 5,.slice none 0 0,[],[]⟩ ?af ?bE
 case af=>refine⟨by show(1+eh l 5).toNat<=5;omega,by rw[yH];rfl,tk (cB _),by show 0+(1+eh l 5).toNat<=5;omega,.nil,rfl,fun i x h=>by cases h⟩
 case bE=>
  rintro⟨k,bX,a,gZ,cells,Ev⟩ hinv;try simp only at hinv
  obtain⟨aU,sD,a',arT,cw,oQ⟩:=hinv;obtain⟨bv,gJ,rfl,Cc⟩:=cw.iJ;refine rg ?_;refine I V.ah ?_;refine I V.a1 ?_;refine ns ?_;refine If (fun abS=>?_) fun abS=>?_
  ·refine aj ?_;refine ab.skip ?_;refine aj ?_;refine ab.block ?_;refine aj ?_;refine ab.draw rfl (by kernel_rfl) (bf:=[.val 0,.val 1,.val 2,.val 3,.val 4,.val 5,.val 6,.val 7,.val 8,.val 9,.val 10,.val 13,.val 14,.val 15,.val 16,.val 19,.val 20,.val 21,.val 22,.bV 11,.val 12,.cF [22,21,20,19,16,15,14,13,4,3,2,1,0],.bV 17,.val 18,.cF [22,21,20,19,12,4,3,2,1,0],.bV 23,.val 24,.gh 25,.cF [24,18,12,4,3,2,1,0],.bV 26,.val 27,.val 28,.cF [0],.bV 29]) (by kernel_rfl) ?_;refine cq ?_;refine an rfl V.aF ?_;refine cq ?_;refine an rfl V.aF ?_;refine an rfl V.ah ?_;refine an rfl V.bx ?_;refine cq ?_;refine an rfl V.aF ?_;refine cq ?_;refine an rfl V.aF ?_;refine a7.Is ?_;refine' f'.call rfl rfl rfl rfl rfl rfl rfl rfl rfl (fun x U=>absurd U Jr) (bh:=[j3 _ c1 cl l a]) (bW:=_::_::Ev) (List.Perm.swap _ _ _) trivial (BW av hE a' (by omega)) ?_;rintro v m' ag hle ⟨rfl,rfl,rfl⟩;refine f'.val rfl rfl rfl rfl V.bx ?_;refine f'.cF fC ?_;refine' f'.call rfl rfl rfl rfl rfl rfl rfl rfl rfl (Xt (fun x U=>by rcases fg.1 U with rfl|U;exact⟨_,_,rfl⟩;cases U)) (bh:=[j3 _ c1 cl l _]) (bW:=_::_::Ev) (.refl _) trivial (BW av hE (tk a') (by omega)) ?_;rintro v m' ag hle ⟨rfl,rfl,rfl⟩;refine f'.val rfl rfl rfl rfl V.bx ?_;refine f'.cF fC ?_;refine' f'.call rfl rfl rfl rfl rfl rfl rfl rfl rfl (Xt (fun x U=>by rcases fg.1 U with rfl|U;exact⟨_,_,rfl⟩;rcases fg.1 U with rfl|U;exact⟨_,_,rfl⟩;cases U)) (bh:=[j3 _ c1 cl l _]) (bW:=_::_::Ev) (.refl _) trivial (BW av hE (tk (tk a')) (by omega)) ?_;rintro v m' ag hle ⟨rfl,rfl,rfl⟩;refine f'.Ir (fun x U=>Jp (f:=fun x=>(x.f,x.b6)) U) ?_
   refine an rfl V.jL ?_;refine a7.buildSlice rfl rfl rfl rfl rfl rfl (YP Q g0) rfl rfl rfl fun aaV=>?_;refine a7.cF fC ?_;refine' a7.fO rfl rfl (kf rfl rfl rfl rfl rfl rfl (YP Q g0) (aop Q g0) (fun i q=>by cases q) ?cw ?hm ?U ?cr ?cc ?av fun Z7 Xl Ks=>?_);case cw=>assumption
   case hm=>exact X'
   case U=>exact hP
   case cr=>first|rfl|(simp;done)|(simp;omega)
   case cc=>first|rfl|exact hg _
   case av=>exact cf
   obtain⟨S5,ik,rfl,atG⟩:=Ks.iJ;refine cq ?_;refine a7.cF fC ?_;refine kW rfl ?_;refine a7.nil ?_;refine ab.eF (m':=(u4,.row (vQ yA (.slice S5 (bX.length+1) ik) (.slice none 0 0) aY 1 false false pl (.slice none 0 0) (.slice none 0 0)) 85)::j3 yA c1 cl l (kK l (kK l (kK l a (pl+1)) 2) 16)::(hs,.row [.int .i64 0,.slice none 0 0,.slice none 0 0] 27)::Xl) (iy:=[(aaV,_)]) al0 ?_;refine rg ?_;refine I V.ah ?_;refine I V.bx ?_;refine I V.aA ?_;refine a8 ?_;refine cA ⟨k -1,bX++[⟨eh (l.drop a) (pl+1) -1,2+eh (fX (l.drop a) (pl+1)) 2,eh (fX (fX (l.drop a) (pl+1)) 2) 16⟩],kK l (kK l (kK l a (pl+1)) 2) 16,.slice S5 (bX.length+1) ik,cells++[.int .i64 (eh (l.drop a) (pl+1) -1),.int .i64 (2+eh (fX (l.drop a) (pl+1)) 2),.int .i64 (eh (fX (fX (l.drop a) (pl+1)) 2) 16)],Xl⟩ ?_;obtain⟨k,rfl⟩:∃ft,k=ft+1:=⟨k -1,by omega⟩;have bo:=pB (l:=l.drop a) (n:=(pl:Int)+1) (by omega);have a2:=pB (l:=fX (l.drop a) (pl+1)) (n:=2) (by omega);have aN:IntKind.i64.wrap (eh (l.drop a) (pl+1) -1)=eh (l.drop a) (pl+1) -1:=wrap_i64 (by omega) (by omega);have bn:IntKind.i64.wrap (2+eh (fX (l.drop a) (pl+1)) 2)=2+eh (fX (l.drop a) (pl+1)) 2:=wrap_i64 (by omega) (by omega);simp only[yH] at Ks;rw[aN,bn] at Ks;refine⟨by omega,by rw[sD,yH,yH,yH,gH];rfl,tk (tk (tk a')),by rw[dv];show bX.length+1+_<=5;omega,Ks.uJ (by simp) rfl,oQ.app rfl rfl⟩
  ·refine aj ?_;refine ab.exit ?_;refine Acc.hx cw al1 (fun eZ cE k'=>?_);obtain rfl:k=0:=by omega
   have VS:H6 pl l=bX:=by unfold H6;rw[sD];exact gg _
   have j9:Ju pl bX:=by rw[<-VS];exact Xa.1
   have Bw:(uq pl (1+eh l 5).toNat (fX l 5)).2=l.drop a:=by rw[sD];rfl
   refine rg ?_;refine aM ?_;refine' W.step rfl (.of (pT rfl rfl rfl rfl rfl (nl Q g0) ?bD ?aa ?ae fun JB=>?_));case bD=>exact cf
   case aa=>exact cf
   case ae=>exact cf
   rw[CB,cy];refine W.fz (x:=(List.replicate pl (Value.slice none 0 0),22)) rfl fun dV agu=>?_;have hC:=abz (Q:=Q) (g0:=g0) (am:=u4) (ad:=yA) (s:=false) (c1:=c1) (cl:=cl) (aY:=aY) (nB:=gJ) (r8:=bv) hE dO zd j9 (by omega) bX 0 rfl (cB _) _ (List.replicate pl []) (IP (l.drop a)) a (.slice none 0 0) (.slice none 0 0) (.slice none 0 0) [] [] [] (some ⟨JB,0,none⟩) pl ((av.mono cE).mono dV) ((⟨_,k',fun j x U=>oQ.2 j x U⟩:fa eZ 88 3 Jx (.slice bv bX.length gJ) bX).mono dV fun _ _ q=>q) ⟨rfl,rfl,(fun x U=>by cases U),(fun k v h=>by cases h),(fun k v y h=>by cases h),by show((0:Nat):Int)+1<=aY;omega,cZ _⟩ (by show(1:Int)<=1;omega) (by simp) (fun s af=>by rw[wo af];rfl) (ad2 agu (by omega)) ⟨a',rfl,⟨[],ME,rfl,fun i x h=>by cases h⟩,⟨[],ME,rfl,fun i x h=>by cases h⟩,⟨[],ME,rfl,fun i x h=>by cases h⟩,fun x U=>by cases U⟩;rw[qU] at hC;refine' W.step rfl (Exec.call rfl rfl rfl rfl rfl rfl rfl (bh:=iV u4 yA _ aY false pl c1 cl l 1 a _ _ _ [] [] []) (bW:=[_]) (.refl _) trivial (hC) ?_);rintro v m' pV hD ⟨_,rfl,bY,o7,EG,o0,vR,sM,ur,rfl,dD⟩;obtain⟨⟨aqx,aq8,rfl,at0⟩,⟨JM,JY,rfl,amF⟩,⟨abp,acn,rfl,atQ⟩⟩:=dD.GH;refine bj ?_;refine aM ?_;refine I V.c8 ?_;refine dN ?_;refine a8 ?_;obtain⟨aQ,aP,tT⟩:=dD.n;obtain⟨ci,ao,vB⟩:=dD.i;refine hk.hx aP al2 (fun yo ku kN=>?_);refine hk.hx ao al3 (fun pW l3 ai5=>?_);have ahs:vr aY pl l=⟨(pl:Int),(lR aY pl bX 0 (List.replicate pl []) (IP (l.drop a))).ns,(lR aY pl bX 0 (List.replicate pl []) (IP (l.drop a))).is⟩:=by unfold vr;rw[VS,Bw];rfl
   refine aj ?_;refine ab.ret ?_;refine c' ?_;rw[ahs];exact⟨(aI.le.trans cE dV).trans ((hD.trans ku).trans l3),rfl,JM,JY,abp,acn,rfl,⟨_,kN.mono l3,fun j x U=>(tT.2 j x U).mono (ku.trans l3)⟩,⟨_,ai5,fun j x U=>vB.2 j x U⟩⟩
end
end
end Go.Opn
namespace Go.Opn
noncomputable section
structure iP (g:bz):Prop where
 dS:1<=g.pl
 iX:g.pl<=3
 b0:1<=g.ns.length
 dn:g.ns.length<=25
 i2:g.is.length<=25
 yC:∀y∈g.is,1<=y.2/\y.2<=3
 kids:∀(i:Nat) (x:cS),g.ns[i]?=some x->∀c∈x.ak,(i:Int)<c/\c<g.ns.length
 kind:∀x∈g.ns,(x.k=3/\x.ak=[]/\(x.fE.length:Int)=g.pl/\∀w∈x.fE,-3<=w/\w<=3)\/
  (x.k=1/\x.ws.length=x.ak.length/\2<=x.ak.length/\x.ak.length<=3/\∀w∈x.ws,1<=w/\w<=3)\/
  (x.k=2/\1<=x.ak.length/\x.ak.length<=3/\0<=x.p/\x.p<g.pl/\∃k:Nat,x.i=(k:Int)/\g.is[k]?=some (x.p,(x.ak.length:Int)))
theorem afz{most:Int}{pl:Nat}{bX:List en}{l:List Int}(j5:BN pl bX)(hm:1<=most)(KJ:most<=25)(zh:1<=pl)(Ps:pl<=3):iP (oK most pl bX l):=by
 have cY:=NR (l:=l) j5 hm;generalize e2:vt most pl bX l=σ at cY;have aq:oK most pl bX l=⟨pl,σ.ns,σ.is⟩:=by unfold oK;rw[e2]
 rw[aq];have c4:0<σ.ns.length:=cY.lt;have aio:σ.cG=0:=by rw[cY.cG];rfl
 have HI:=cY.gE.sum;have Ww:=cY.gE.uN;have rq:=cY.gE.is;have rl:∀(c:Nat) (x:cS),σ.ns[c]?=some x->∃dM L,s6 pl bX σ c x dM L:=fun c x U=>by
  obtain⟨y,dM,L,h⟩:=cY.pp c (cB _) (eT U);have:=h.U;rw[U] at this;injection this with this;subst this
  exact⟨dM,L,h⟩
 refine⟨by show 1<=(pl:Int);omega,by show(pl:Int)<=3;omega,c4,by show σ.ns.length<=25;omega,by show σ.is.length<=25;omega,fun y ai=>?_,fun i x U c aH=>?_,fun x U=>?_⟩
 ·obtain⟨k,aU⟩:=kj.1 ai;have az:=de (l:=σ.vs) (i:=k) (by have:=eT aU;show k<σ.vs.length;rw[<-rq];exact this);exact(cY.gE.ok k _ y az aU).2
 ·obtain⟨dM,L,h⟩:=rl i x U;obtain⟨j,ba⟩:=kj.1 aH;obtain⟨aa,ae,_⟩:=h.aU j c ba;exact⟨aa,ae⟩
 ·obtain⟨c,aH⟩:=kj.1 U;obtain⟨dM,L,h⟩:=rl c x aH;rcases h.rq with⟨aa,ae,aG,br,eu,gK,ks⟩|⟨aa,ae,aG,br,eu,gK,ks,A3,_⟩|⟨aa,ae,aG,br,eu,P,s,k,cI,ei,gN,iZ,mE,qF,l9⟩
  ·exact .inl ⟨aa,br,by show(x.fE.length:Int)=(pl:Int);omega,ks⟩
  ·exact .inr (.inl ⟨aa,eu,gK,ks,A3⟩)
  ·have dD:=j5 P (cd cI);exact .inr (.inr ⟨aa,br,eu,by omega,by show x.p<(pl:Int);omega,k,iZ,by rw[gN];exact l9⟩)
def lo(g:bz)(l:List (List Int))(cm ao:Int):Prop:=l.length=g.is.length/\∀(i:Nat) (r:List Int) (y:Int×Int),l[i]?=some r->g.is[i]?=some y->(r.length:Int)=y.2/\∀v∈r,cm<=v/\v<=ao
theorem lo.wide{g:bz}{l:List (List Int)}{cm ao lo' hi':Int}(h:lo g l cm ao)(aa:lo'<=cm)(ae:ao<=hi'):lo g l lo' hi':=
 ⟨h.1,fun i r y ay ai=>⟨(h.2 i r y ay ai).1,fun v az=>by have:=(h.2 i r y ay ai).2 v az;omega⟩⟩
theorem lo.get{g:bz}{l:List (List Int)}{cm ao:Int}(h:lo g l cm ao){i:Nat}{y:Int×Int}(ai:g.is[i]?=some y):∃r,l[i]?=some r/\(r.length:Int)=y.2/\∀(k:Nat) v,r[k]?=some v->cm<=v/\v<=ao:=by
 have ao:i<l.length:=by rw[h.1];exact eT ai
 have ay:=de ao;exact⟨_,ay,(h.2 i _ y ay ai).1,fun k v az=>(h.2 i _ y ay ai).2 v (cd az)⟩
theorem lo.row{g:bz}{l:List (List Int)}{cm ao:Int}(h:lo g l cm ao){i:Nat}{r:List Int}(ay:l[i]?=some r):∃y,g.is[i]?=some y/\(r.length:Int)=y.2/\∀(k:Nat) v,r[k]?=some v->cm<=v/\v<=ao:=by
 have ao:i<g.is.length:=by rw[<-h.1];exact eT ay
 have ai:=de ao;exact⟨_,ai,(h.2 i _ _ ay ai).1,fun k v az=>(h.2 i _ _ ay ai).2 v (cd az)⟩
theorem lo.len{g:bz}{l:List (List Int)}{cm ao:Int}(aq:iP g)(h:lo g l cm ao):l.length<=25/\∀r∈l,1<=r.length/\r.length<=3:=by
 refine⟨by rw[h.1];exact aq.i2,fun r ay=>?_⟩;obtain⟨i,ao⟩:=kj.1 ay;obtain⟨y,ai,aa,_⟩:=h.row ao;have:=aq.yC y (cd ai);omega
theorem lo.put{g:bz}{l:List (List Int)}{cm ao v:Int}{i k:Nat}{r:List Int}(h:lo g l cm ao)(ay:l[i]?=some r)(aa:cm<=v)(ae:v<=ao):lo g (l.set i (r.set k v)) cm ao:=by
 refine⟨by rw[gu];exact h.1,fun j dw y nc ai=>?_⟩;rw[kH] at nc;split at nc
 ·rename_i q;subst q;rw[aE (eT ay)] at nc;injection nc with nc;subst nc
  obtain⟨bo,a2⟩:=h.2 i r y ay ai;refine⟨by rw[gu];exact bo,fun w hw=>?_⟩;rcases CN hw with q|q
  ·exact a2 w q
  ·subst q;exact⟨aa,ae⟩
 ·exact h.2 j dw y nc ai
theorem lo.LH{g:bz}{l:List (List Int)}{cm ao:Int}{i:Nat}{r dw:List Int}(h:lo g l cm ao)(ay:l[i]?=some r)(aa:dw.length=r.length)(ae:∀v∈dw,cm<=v/\v<=ao):lo g (l.set i dw) cm ao:=by
 refine⟨by rw[gu];exact h.1,fun j s y af ai=>?_⟩;rw[kH] at af;split at af
 ·rename_i q;subst q;rw[aE (eT ay)] at af;injection af with af;subst af
  obtain⟨bo,a2⟩:=h.2 i r y ay ai;exact⟨by rw[aa];exact bo,ae⟩
 ·exact h.2 j s y af ai
def jb(g:bz):List (List Int):=g.is.map fun y=>List.replicate y.2.toNat 0
theorem aak{g:bz}(aq:iP g):lo g (jb g) 0 0:=by
 refine⟨by unfold jb;simp,fun i r y ay ai=>?_⟩;unfold jb at ay;rw[pb,ai] at ay;simp only[Fz,cp] at ay;subst ay;have:=aq.yC y (cd ai);refine⟨by rw[qU];omega,fun v az=>by rw[wo az];omega⟩
def wz(g:bz)(s:List (List Int)):Prop:=lo g s 0 65536/\∀r∈s,r.sum=65536
theorem E3{l:List Int}{k:Nat}{x:Int}(h:l[k]?=some x):(l.take (k+1)).sum=(l.take k).sum+x:=by
 rw[nS,h];simp
theorem Zf{l:List Int}{k:Nat}{x:Int}(h:l[k]?=some x):(l.drop k).sum=x+(l.drop (k+1)).sum:=by
 have aU:=eT h;rw[mO aU];have:l[k]=x:=by rw[de aU] at h;injection h
 rw[this];simp
theorem Zi{l:List Int}{k:Nat}:l.sum=(l.take k).sum+(l.drop k).sum:=by
 rw[<-List.sum_append,Mu]
theorem z1{l:List Int}(h:∀v∈l,0<=v):0<=l.sum:=by
 induction l with
 |nil=>exact yn _
 |cons a l aK=>
  have aa:=h a (.head _);have ae:=aK fun v az=>h v (.tail _ az);rw[Sq];omega
theorem rU{l:List Int}(h:∀v∈l,0<=v)(k:Nat):0<=(l.take k).sum/\(l.take k).sum<=l.sum:=by
 have aa:=z1 (l:=l.take k) fun v az=>h v (Sk az);have ae:=z1 (l:=l.drop k) fun v az=>h v (aaH az);have:=Zi (l:=l) (k:=k);omega
theorem LZ{l:List Int}{b:Int}(h:∀v∈l,v<=b):l.sum<=b*l.length:=by
 induction l with
 |nil=>simp
 |cons a l aK=>
  have aa:=h a (.head _);have ae:=aK fun v az=>h v (.tail _ az);rw[Sq,iQ];have:b*((l.length+1:Nat):Int)=b*l.length+b:=by rw[Int.natCast_add,R6];simp
  omega
theorem Zg{l:List Int}{b:Int}(h:∀v∈l,b<=v):b*l.length<=l.sum:=by
 induction l with
 |nil=>simp
 |cons a l aK=>
  have aa:=h a (.head _);have ae:=aK fun v az=>h v (.tail _ az);rw[Sq,iQ];have:b*((l.length+1:Nat):Int)=b*l.length+b:=by rw[Int.natCast_add,R6];simp
  omega
theorem L0{l:List Int}(h:∀v∈l,0<=v){k:Nat}{x:Int}(U:l[k]?=some x):x<=l.sum:=by
 have aa:=rU h k;have ae:=z1 (l:=l.drop (k+1)) fun v az=>h v (aaH az);have aG:=Zi (l:=l) (k:=k);have br:=Zf U;omega
theorem Zh{l:List Int}{k:Nat}{x y:Int}(h:l[k]?=some x):(l.set k y).sum=l.sum -x+y:=by
 induction l generalizing k with
 |nil=>cases h
 |cons a l aK=>
  cases k with
  |zero=>simp at h;subst h;simp;omega
  |succ k=>simp at h;simp[aK h];omega
end
end Go.Opn
set_option maxHeartbeats 4000000
namespace Go.Opn
noncomputable section
open Go.Cre Go.RowKit Go.Proofs
section
variable {Q:dI Tryz.prog}{g0:Nat}{J:aI}
theorem YJ{g:bz}{aT aL:Option Addr}{aQ ci:Nat}(aq:fG J g aT aQ aL ci)(dt:ym g):
 Fn (bb Q g0) 94 [hc g aT aQ aL ci] [] J (fun u m' ag=>∃b c,u=.slice b (gA g).length c/\m'=[]/\J.le ag/\dG ag (.slice b (gA g).length c) (gA g)):=by
 obtain⟨_,fD⟩:=aq.n.at;have fW:addrEq aL aL=true:=aq.i.addr;have gn:addrEq aT aT=true:=aq.n.addr;have aD:=IA dt;have dO:=aD.len;have b0:=dt.b0;have dn:=dt.dn;have nJ:∀x∈g.ns,x.ak.length<=60:=fun x U=>(EE (dt.nodes x U) dt.lJ).1;refine Fn.cH (cQ Tryz.func94) rfl rfl fun H=>?_;refine rg ?_;refine dJ fun bo=>?_;refine I V.aA ?_;refine bj ?_;refine I V.bc ?_;refine I V.aF ?_;refine I V.bP ?_;refine' W.step rfl (.of (pT rfl rfl rfl rfl rfl (eX Q g0) ?bD ?aa ?ae fun a9=>?_));case bD=>exact cf
 case aa=>exact cf
 case ae=>exact cf
 refine I V.aA ?_;refine a8 ?_;rw[yi,cy];refine rg ?_;refine I V.ah ?_;refine I V.aX ?_;refine' W.step rfl (.of (hz rfl rfl rfl rfl (fY rfl) rfl rfl rfl ?aa ?af ?aw ?_));case aw=>repeat first|exact .head _ _ _ _|apply cR.tail|apply cR.app
 case af=>exact jo 0 (by simp;omega)
 case aa=>first|rfl|assumption
 refine bj ?_;refine I V.aA ?_;refine ns ?_;refine ab.block ?_;refine' ab.c2 (l':=[(4,.int .i64 ((0):Int)),(1,_),(3,_)]) ⟨?kF,rfl,rfl,trivial⟩ (bA _) ?_;case kF=>exact bS
 refine aj ?_;refine' ab.dF (fun(bH:Nat×(List Int))=>match bH with|(i,L)=>⟨[(4,.int .i64 (i:Int))],ld a9 L::[(bo,.row (iq g aT aQ aL ci) 27)],J,i<=g.ns.length/\tf (gA g) L i [],g.ns.length -i⟩) ⟨0,(List.replicate g.ns.length 0).set 0 (-1)⟩ ?af ?bE
 case af=>refine⟨cB _,by simp[dO],by rw[kH,aE rfl,aE (by simp;omega)],fun c a aH a' aZ=>?_⟩;rcases aZ with aZ|⟨_,aZ⟩;(obtain⟨b,aa,_⟩:=aD.up c aH (by rw[<-dO];exact(dX.1 a').1);rw[a'] at aa;injection aa with aa;omega);cases aZ
 case bE=>
  rintro⟨i,L⟩ hinv;try simp only at hinv
  obtain⟨ao,dD⟩:=hinv;refine rg ?_;refine aM ?_;refine I V.aF ?_;refine I V.bP ?_;refine I V.a1 ?_;refine ns ?_;refine If (fun kL=>?_) fun kL=>?_
  ·obtain⟨bR,off,cells,bG,rfl,ms,jP⟩:=fD (by omega);obtain⟨x,cs,U,gV,ir,ey⟩:=jP i (by omega) (by omega);obtain⟨bm,bt,bl,bw,b8,dh,rfl,eo,ga,gz⟩:=ey;have za:=ir 3 _ (by decide) rfl;rw[cy] at U;have N6:=nJ x (cd U);have OJ:=aD.down i x U;have j':=eo.iB [];refine c5 ?_;refine aj ?_;refine ab.block ?_;refine rg ?_;refine I V.aA ?_;refine ns ?_;refine ab.block ?_;refine' ab.c2 (l':=[(5,.int .i64 ((0):Int)),(1,_),(3,_),(4,_)]) ⟨?pR,rfl,rfl,rfl,trivial⟩ (bA _) ?_;case pR=>exact bS
   refine aj ?_;refine' ab.dF (fun(bH:Nat×(List Int))=>match bH with|(k,eM)=>⟨[(5,.int .i64 (k:Int))],ld a9 eM::[(bo,.row (iq g (some ⟨bR,off,none⟩) aQ aL ci) 27)],J,k<=x.ak.length/\tf (gA g) eM i (x.ak.take k),x.ak.length -k⟩) ⟨0,L⟩ ?af ?bE
   case af=>exact⟨cB _,dD⟩
   case bE=>
    rintro⟨k,eM⟩ hinv;try simp only at hinv
    obtain⟨aU,lV⟩:=hinv;refine rg ?_;refine aM ?_;refine I V.aF ?_;refine I V.ah ?_;refine I V.aX ?_;refine I V.bc ?_;refine I V.aF ?_;refine I V.bP ?_;refine I V.a1 ?_;refine ns ?_;refine If (fun jx=>?_) fun jx=>?_
    ·obtain⟨mh,iW,oD,rfl,Bz,ia⟩:=j' (by omega);obtain⟨w,hw,oW⟩:=ia k (by omega) (by omega);rw[cy] at hw;obtain⟨nK,Ef,ajo⟩:=OJ.2 w (cd hw);have y8:=lV.len;refine c5 ?_;refine aj ?_;refine ab.block ?_;refine rg ?_;refine aM ?_;refine I V.aF ?_;refine I V.ah ?_;refine I V.aX ?_;refine I V.bc ?_;refine I V.aF ?_;refine I V.ah ?_;refine I V.aX ?_;refine' W.step rfl (Exec.val rfl rfl (gY rfl rfl ?ay (hp (eV rfl) ?az)) ?_);case ay=>exact Bz.sub (fun _ q=>by cases q)
     case az=>first|rfl|assumption
     refine I V.ah ?_;refine I V.aX ?_;refine' W.step rfl (.of (hz rfl rfl rfl rfl (fY rfl) rfl rfl rfl ?aa ?af ?aw ?_));case aw=>repeat first|exact .head _ _ _ _|apply cR.tail|apply cR.app
     case af=>exact jo w.toNat (by omega)
     case aa=>first|rfl|assumption
     refine bj ?_;refine I V.ah ?_;refine I V.bx ?_;refine I V.aA ?_;refine a8 ?_;refine cA ⟨k+1,eM.set w.toNat i⟩ ?_;exact⟨by omega,lV.step hw (by omega) ajo⟩
    ·have agF:tf (gA g) eM (i+1) []:=by
        rw[et (by omega)] at lV;exact lV.next aD U
     refine aj ?_;refine ab.exit ?_;refine rg ?_;refine I V.ah ?_;refine I V.bx ?_;refine I V.aA ?_;refine a8 ?_;refine cA ⟨i+1,eM⟩ ?_;exact⟨by omega,agF⟩
  ·refine aj ?_;refine ab.exit ?_;have agD:L=gA g:=by
    rw[show i=g.ns.length by omega] at dD;exact dD.all aD b0
   subst agD;refine ab.mD rfl fun hle=>?_;refine rg ?_;refine aM ?_;refine ns ?_;refine ab.ret ?_;refine c' ?_;refine⟨some ⟨a9,0,none⟩,(gA g).length,by rw[dO];rfl,rfl,hle,dG.lit (by unfold c9;omega) (aI.oy _ _ _)⟩
theorem II{g:bz}{aT aL:Option Addr}{aQ ci:Nat}{dU:Nat}{p:Int}(aq:fG J g aT aQ aL ci)(dt:ym g)(ho:dU<g.ns.length):
 Fn (bb Q g0) 77 [hc g aT aQ aL ci,.int .i64 (dU:Int),.int .i64 p] [] J (fun u m' ag=>∃b c a3,u=.slice b (gF g (gA g) p dU).length c/\m'=[(a3,.row (iq g aT aQ aL ci) 27)]/\J.le ag/\fa ag 145 2 uS (.slice b (gF g (gA g) p dU).length c) (gF g (gA g) p dU)):=by
 have fW:addrEq aL aL=true:=aq.i.addr;have gn:addrEq aT aT=true:=aq.n.addr;have aD:=IA dt;have dO:=aD.len;have dn:=dt.dn;have nJ:∀x∈g.ns,x.ak.length<=60:=fun x U=>(EE (dt.nodes x U) dt.lJ).1;have xH:∀c,c<g.ns.length->(jU g (gA g) p c).length<=c:=fun c aH=>by
  have:=zD (g:=g) (P:=gA g) (p:=p) c c (cZ _);unfold jU;rw[mc];exact this
 have k':(gF g (gA g) p dU).length<=2000:=by have:=xH dU ho;unfold gF;rw[uT];omega
 have ec:∀c:Nat,c<g.ns.length->∃a,(gA g)[c]?=some a/\-1<=a/\a<g.ns.length:=fun c aH=>by
  by_cases q:c=0
  ·subst q;exact⟨-1,aD.root,by omega,by omega⟩
  ·obtain⟨a,aa,ae,_⟩:=aD.up c (by omega) aH
   exact⟨a,aa,by omega,by omega⟩
 refine Fn.cH (cQ Tryz.func77) rfl rfl fun H=>?_;refine rg ?_;refine dJ fun a3=>?_;refine I V.aA ?_;refine bj ?_;refine I V.c8 ?_;refine cl (G:=YJ aq dt) (h:=?_);rintro v m' dQ ck ⟨cu,cD,rfl,rfl,_,dD⟩;refine I V.aA ?_;refine a8 ?_;have pt:=aq.mono ck;obtain⟨_,fD⟩:=pt.n.at;obtain⟨df,op,Nc,rfl,By,OZ⟩:=dD.iB [] (by omega);have KW:∀(c:Nat) (at_:Int),c<g.ns.length->(gA g)[c]?=some at_->nth Nc (op+c*1)=some (.int .i64 at_):=fun c at_ aH h=>by
  obtain⟨x,aa,ae⟩:=OZ c (by omega) (by omega);rw[cy] at aa ae;rw[aa] at h;injection h with h;subst h;exact ae
 refine rg ?_;refine I V.aA ?_;refine bj ?_;refine aM ?_;refine ns ?_;refine ab.block ?_;refine' ab.c2 (l':=[(8,(.slice none 0 0)),(9,.int .i64 ((dU):Int)),(2,_),(3,_),(7,_)]) ⟨?jq,?pS,rfl,rfl,rfl,trivial⟩ (bA _) ?_;case jq=>exact bS
 case pS=>exact bS
 refine aj ?_;refine' ab.dF (fun(bH:Nat×(List (Int×Int))×Value×aO)=>match bH with|(c,done,v,aY)=>⟨[(8,v),(9,.int .i64 (c:Int))],aY++[(a3,.row (iq g aT aQ aL ci) 27)],dQ,c<g.ns.length/\done++jU g (gA g) p c=jU g (gA g) p dU/\done.length+c<=2000/\Acc 145 2 v done.length (ib done) aY,c⟩) ⟨dU,[],.slice none 0 0,[]⟩ ?af ?bE
 case af=>exact⟨ho,rfl,by simp;omega,.nil⟩
 case bE=>
  rintro⟨c,done,v,aY⟩ hinv;try simp only at hinv
  obtain⟨aH,Ky,vE,cw⟩:=hinv;obtain⟨at_,fJ,Bh,vA⟩:=ec c aH;have Po:=KW c _ aH fJ;refine rg ?_;refine aM ?_;refine I V.aX ?_;refine' W.step rfl (Exec.val rfl rfl (gY rfl rfl ?ay (hp (eV rfl) ?az)) ?_);case ay=>exact By.sub (fun _ q=>by cases q)
  case az=>first|rfl|assumption
  refine I V.a1 ?_;refine ns ?_;refine If (fun wN=>?_) fun wN=>?_
  ·obtain⟨a,lA,h9,y,ai,n8⟩:=aD.up c (by by_cases q:c=0;(subst q;rw[aD.root] at fJ;injection fJ with fJ;omega);omega) aH;rw[fJ] at lA;injection lA with lA;subst lA
   obtain⟨bR,off,cells,bG,rfl,ms,jP⟩:=fD (by omega);obtain⟨iM,cs,hf,gV,ir,ey⟩:=jP a (by omega) (by omega);obtain⟨bm,bt,bl,bw,b8,dh,rfl,eo,ga,gz⟩:=ey;rw[cy,ai] at hf;injection hf with hf;subst hf
   have N6:=nJ y (cd ai);have Wb:=(aD.down a y ai).1;have j':=eo.iB [];refine c5 ?_;refine aj ?_;refine ab.block ?_;refine aj ?_;refine ab.draw rfl (by kernel_rfl) (bf:=[.gh 8,.val 0,.val 1,.val 2,.val 3,.val 4,.val 5,.val 6,.val 7,.bV 9]) (by kernel_rfl) ?_;refine a7.alloc rfl rfl rfl rfl rfl (om Q g0) rfl rfl rfl fun q2=>?_;refine an rfl V.bc ?_;refine an rfl V.aF ?_;refine cq ?_;refine an rfl V.aX ?_;refine' a7.val rfl rfl rfl rfl (gY rfl rfl ?ay (hp (eV rfl) ?az)) ?_;case ay=>exact By.sub (fun _ q=>by cases q)
   case az=>first|rfl|assumption
   refine an rfl V.aX ?_;refine an rfl V.c8 ?_;refine kW rfl ?_;refine a7.nil ?_;refine rg ?_;refine I V.aA ?_;refine ns ?_;refine ab.block ?_;refine aj ?_;refine ab.gB (B8.symm) ?_;refine' ab.c2 (l':=[(8,(v)),(11,.int .i64 ((0):Int)),(2,_),(3,_),(7,_),(9,_),(10,_)]) ⟨?jq,?yb,rfl,rfl,rfl,rfl,rfl,trivial⟩ (bA _) ?_;case jq=>exact bS
   case yb=>exact bS
   refine aj ?_;refine' ab.dF (fun(bH:Nat×Value×aO)=>match bH with|(k,v1,l6)=>⟨[(8,v1),(11,.int .i64 (k:Int))],l6++[(q2,.row [.int .i64 y.k,.int .i64 y.p,.int .i64 y.i,.slice bm y.ak.length bt,.slice bl y.ws.length bw,.slice b8 y.fE.length dh] 45),(a3,.row (iq g (some ⟨bR,off,none⟩) aQ aL ci) 27)],dQ,k<=y.ak.length/\Acc 145 2 v1 (oa done y p c k).length (ib (oa done y p c k)) l6,y.ak.length -k⟩) ⟨0,v,aY⟩ ?af ?bE
   case af=>exact⟨cB _,by rw[ajO];exact cw⟩
   case bE=>
    rintro⟨k,v1,l6⟩ hinv;try simp only at hinv
    obtain⟨aU,Ba⟩:=hinv;refine rg ?_;refine aM ?_;refine I V.aF ?_;refine I V.bP ?_;refine I V.a1 ?_;refine I V.ah ?_;refine dq 39 (fun af'=>?_) fun af'=>?_
    ·refine aW V.bc ?_;refine aW V.aF ?_;refine aW V.a1 ?_;refine I V.aV ?_;refine I V.ah ?_;refine dq 44 (fun y6=>?_) fun y6=>?_
     ·refine aW V.bc ?_;refine aW V.aF ?_;refine aW V.ah ?_;refine aW V.a1 ?_;refine I V.aV ?_;refine ns ?_;refine If (fun sc=>?_) fun sc=>?_
      ·
        obtain⟨mh,iW,oD,rfl,Bz,ia⟩:=j' (by omega);obtain⟨w,hw,oW⟩:=ia k (by omega) (by omega);rw[cy] at hw;have oT:=K2 (done:=done) (y:=y) (p:=p) (c:=c) (k:=k);refine c5 ?_;refine aj ?_;refine ab.block ?_;refine rg ?_;refine I V.bc ?_;refine I V.aF ?_;refine I V.ah ?_;refine I V.aX ?_;refine' W.step rfl (Exec.val rfl rfl (gY rfl rfl ?ay (hp (eV rfl) ?az)) ?_);case ay=>exact Bz.sub (fun _ q=>by cases q)
        case az=>first|rfl|assumption
        refine I V.ah ?_;refine I V.a1 ?_;refine ns ?_;refine If (fun wP=>?_) fun wP=>?_
        ·refine rg ?_;refine aM ?_;refine I V.aF ?_;refine aM ?_;refine jw (ET Q g0) fun JB=>?_;refine' W.step rfl (.of (kf rfl rfl rfl rfl rfl rfl (ET Q g0) (Rt Q g0) (fun i q=>by cases q) ?cw ?hm ?U ?cr ?cc ?av fun I5 xR G7=>?_));case cw=>assumption
         case hm=>exact sU
         case U=>exact hP
         case cr=>first|rfl|(simp;done)|(simp;omega)
         case cc=>first|rfl|exact hg _
         case av=>exact cf
         refine I V.aA ?_;refine bj ?_;refine I V.ah ?_;refine I V.bx ?_;refine I V.aA ?_;refine a8 ?_;refine cA ⟨k+1,I5,xR⟩ ?_ (hm:=pX (bA _) (.cons _ (.refl _)));refine⟨by omega,?_⟩;rw[ajN Wb ⟨y6,sc⟩ hw wP];exact G7.uJ (by simp) (by rw[EO];rfl)
        ·refine aj ?_;refine ab.skip ?_;refine rg ?_;refine I V.ah ?_;refine I V.bx ?_;refine I V.aA ?_;refine a8 ?_;refine cA ⟨k+1,v1,l6⟩ ?_;refine⟨by omega,?_⟩;rw[ajM Wb hw wP];exact Ba
      ·
        refine aj ?_;refine ab.exit ?_;refine rg ?_;refine aM ?_;refine I V.aX ?_;refine' W.step rfl (Exec.val rfl rfl (gY rfl rfl ?ay (hp (eV rfl) ?az)) ?_);case ay=>exact By.sub (fun _ q=>by cases q)
        case az=>first|rfl|assumption
        refine I V.aA ?_;refine a8 ?_;refine cA ⟨a,oa done y p c k,v1,l6⟩ ?_ (hm:=pX (bA _) (.cons _ (.refl _)));refine⟨by omega,by rw[P2 fJ h9 ai n8 (by first|(have nO:=sc;exact fun q=>absurd q.2 sc)|(have nO:=y6;exact fun q=>absurd q.1 y6)|(intro _;omega)),Ky],by have:=K2 (done:=done) (y:=y) (p:=p) (c:=c) (k:=k);omega,Ba⟩
     ·refine al ?_;refine al ?_;refine al ?_;refine al ?_;refine I V.aV ?_;refine ns ?_;refine ab.wS rfl ?_;refine aj ?_;refine ab.exit ?_;refine rg ?_;refine aM ?_;refine I V.aX ?_;refine' W.step rfl (Exec.val rfl rfl (gY rfl rfl ?ay (hp (eV rfl) ?az)) ?_);case ay=>exact By.sub (fun _ q=>by cases q)
      case az=>first|rfl|assumption
      refine I V.aA ?_;refine a8 ?_;refine cA ⟨a,oa done y p c k,v1,l6⟩ ?_ (hm:=pX (bA _) (.cons _ (.refl _)));refine⟨by omega,by rw[P2 fJ h9 ai n8 (by first|(have nO:=sc;exact fun q=>absurd q.2 sc)|(have nO:=y6;exact fun q=>absurd q.1 y6)|(intro _;omega)),Ky],by have:=K2 (done:=done) (y:=y) (p:=p) (c:=c) (k:=k);omega,Ba⟩
    ·refine al ?_;refine al ?_;refine al ?_;refine I V.aV ?_;refine I V.ah ?_;refine al ?_;refine al ?_;refine al ?_;refine al ?_;refine I V.aV ?_;refine ns ?_;refine ab.wS rfl ?_;refine aj ?_;refine ab.exit ?_;refine rg ?_;refine aM ?_;refine I V.aX ?_;refine' W.step rfl (Exec.val rfl rfl (gY rfl rfl ?ay (hp (eV rfl) ?az)) ?_);case ay=>exact By.sub (fun _ q=>by cases q)
     case az=>first|rfl|assumption
     refine I V.aA ?_;refine a8 ?_;refine cA ⟨a,oa done y p c k,v1,l6⟩ ?_ (hm:=pX (bA _) (.cons _ (.refl _)));refine⟨by omega,by rw[P2 fJ h9 ai n8 (by first|(have nO:=sc;exact fun q=>absurd q.2 sc)|(have nO:=y6;exact fun q=>absurd q.1 y6)|(intro _;omega)),Ky],by have:=K2 (done:=done) (y:=y) (p:=p) (c:=c) (k:=k);omega,Ba⟩
  ·have aZ:done=jU g (gA g) p dU:=by
    rw[<-Ky,show jU g (gA g) p c=[] by unfold jU;rw[Li fJ (by omega)];rfl,gg]
   refine aj ?_;refine ab.exit ?_;refine rg ?_;refine I V.aA ?_;refine a8 ?_;obtain⟨bv,gJ,rfl⟩:=cw.form;refine cw.hx (.refl _) fun eZ cE xE=>?_;have jO:=Ny xE;obtain⟨_,tX⟩:=jO.at;refine rg ?_;refine aM ?_;refine I V.bx ?_;refine I V.aA ?_;refine ns ?_;refine ab.block ?_;refine' ab.c2 (l':=[(12,(.slice none 0 0)),(13,.int .i64 (((done.length):Int) -1)),(8,_)]) ⟨?uO,?rY,rfl,trivial⟩ (bA _) ?_;case uO=>exact bS
   case rY=>exact bS
   refine aj ?_;refine' ab.dF (fun(bH:Nat×Value×aO)=>match bH with|(k,v2,H9)=>⟨[(12,v2),(13,.int .i64 ((k:Int) -1))],H9++[(a3,.row (iq g aT aQ aL ci) 27)],eZ,k<=done.length/\Acc 145 2 v2 (done.drop k).reverse.length (ib (done.drop k).reverse) H9,k⟩) ⟨done.length,.slice none 0 0,[]⟩ ?af ?bE
   case af=>exact⟨cZ _,by rw[List.drop_length];exact .nil⟩
   case bE=>
    rintro⟨k,v2,H9⟩ hinv;try simp only at hinv
    obtain⟨aU,Bb⟩:=hinv;refine rg ?_;refine I V.ah ?_;refine I V.a1 ?_;refine ns ?_;refine If (fun abY=>?_) fun abY=>?_
    ·obtain⟨ad,atr,aqU,arq,rfl,jN,ahv⟩:=tX (by omega);obtain⟨x,AK,U,ag7,_,rfl⟩:=ahv ((k:Int) -1) (by omega) (by omega);have e1:done[k -1]?=some x:=by rw[<-U];congr 1;omega
     have ahc:done.drop (k -1)=x::done.drop k:=by
        have c4:=(dX.1 e1).1;rw[mO c4,show k -1+1=k by omega];congr 1
        rw[de c4] at e1;injection e1
     have Hh:(done.drop k).reverse.length<=2000:=by simp;omega
     refine c5 ?_;refine aj ?_;refine ab.block ?_;refine rg ?_;refine aM ?_;refine I V.aX ?_;refine I V.c8 ?_;refine jw (ET Q g0) fun aaW=>?_;refine' W.step rfl (.of (kf rfl rfl rfl rfl rfl rfl (ET Q g0) (Rt Q g0) (fun i q=>by cases q) ?cw ?hm ?U ?cr ?cc ?av fun Z8 Xm Bd=>?_));case cw=>assumption
     case hm=>exact sU
     case U=>exact hP
     case cr=>first|rfl|(simp;done)|(simp;omega)
     case cc=>first|rfl|exact hg _
     case av=>exact cf
     refine I V.aA ?_;refine bj ?_;refine I V.ah ?_;refine I V.bx ?_;refine I V.aA ?_;refine a8 ?_;refine cA ⟨k -1,Z8,Xm⟩ ?_ (hm:=pX (bA _) (.cons _ (.refl _)));refine⟨by omega,?_⟩;rw[ahc];exact Bd.uJ (by simp) (by rw[List.reverse_cons,EO];rfl)
    ·obtain rfl:k=0:=by omega
     rw[mP,aZ] at Bb;refine aj ?_;refine ab.exit ?_;obtain⟨bl,bw,rfl⟩:=Bb.form;refine Bb.hx (m0:=[(a3,.row (iq g aT aQ aL ci) 27)]) (.refl _) fun kh dV HE=>?_;refine rg ?_;refine aM ?_;refine ns ?_;refine ab.ret ?_;refine'⟨.inr rfl,rfl,_,[(a3,_)],.tmp rfl .nil,bA _,⟨_,_,a3,rfl,rfl,ck.trans (cE.trans dV),Ny HE⟩⟩
end
end
end Go.Opn

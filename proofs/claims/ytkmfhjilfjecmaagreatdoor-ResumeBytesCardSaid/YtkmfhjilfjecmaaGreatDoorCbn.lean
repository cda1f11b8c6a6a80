/- A part of the proof of ResumeBytes. -/
import Derived.Test.YtkmfhjilfjecmaaGreatDoorCbm
import Derived.Test.YtkmfhjilfjecmaaGreatDoorCbj
set_option maxRecDepth 100000
set_option maxHeartbeats 8000000
set_option linter.unusedVariables false
set_option linter.unusedSimpArgs false
namespace Go.Opn
noncomputable section
open Go.Cre Go.RowKit Go.Proofs
theorem hj.hQ{K:eE}{B:dV}{m:aN}{J:aH}{cX:Exit->cf->aN->aH->Prop}{c:Code}{e:TypeId}{sz k:Nat}{v:Value}{cells:List Value}{aY m0:aN}{E:cf}(h:hj e sz v k cells aY)(hm:m.Perm (aY++m0))(aO:∀af,J.le af->hL af e sz v k cells->ab K B c E m0 af cX):ab K B c E m J cX:=by
 rcases h with⟨h,_,_⟩|⟨a,full,rest,rfl,rfl,aF,bo,eB⟩
 ·exact Acc.hQ h hm aO
 ·refine ab.gN hm.symm ?_
  refine ab.mJ (x:=(full,e)) rfl fun hle=>?_;exact aO _ hle (.row (aH.oL _ _ _) (by rw[mr];exact bo) (by rw[<-bo,iu];omega) (fun q=>absurd rfl q) (fun _=>rfl))
def uy(pl:Nat):Nat->List Int->List ep×List Int
 |0,l=>([],l)
 |k+1,l=>(⟨ej l (pl+1) -1,2+ej (fY l (pl+1)) 2,ej (fY (fY l (pl+1)) 2) 16⟩::(uy pl k (fY (fY (fY l (pl+1)) 2) 16)).1,(uy pl k (fY (fY (fY l (pl+1)) 2) 16)).2)
theorem XD{pl:Nat}:∀{k:Nat} {l:List Int},JQ pl (uy pl k l).1/\(uy pl k l).1.length=k:=by
 intro k;induction k with
 |zero=>intro l;exact⟨fun p h=>(by cases h),rfl⟩
 |succ k aI=>
  intro l;obtain⟨aa,ae⟩:=@aI (fY (fY (fY l (pl+1)) 2) 16);refine⟨fun p au=>?_,by show _+1=_;rw[ae]⟩;rcases e3.1 au with rfl|au
  ·have bm:=pN (l:=l) (n:=(pl:Int)+1) (by omega)
   have a2:=pN (l:=fY l (pl+1)) (n:=2) (by omega);have a3:=pN (l:=fY (fY l (pl+1)) 2) (n:=16) (by omega);exact⟨by show -1<=ej l (pl+1) -1;omega,by show ej l (pl+1) -1<_;omega,by show 2<=2+ej _ _;omega,by show 2+ej _ _<=3;omega,a3.1,by show ej _ _<=15;omega⟩
  ·exact aa p au
def Iq(pl:Nat)(l:List Int):List ep:=(uy pl (1+ej l 5).toNat (fY l 5)).1
def vB (aY:Int)(pl:Nat)(l:List Int):bq:=oT aY pl (Iq pl l) (uy pl (1+ej l 5).toNat (fY l 5)).2
theorem aey{J:aH}{a n:Nat}(h:J a=some (List.replicate n (Value.slice none 0 0),22))(aP:n<=100):fc J 22 1 (jW J) (.slice (some ⟨a,0,none⟩) (List.replicate n ([]:List Int)).length n) (List.replicate n []):=by
 refine⟨List.replicate n (Value.slice none 0 0),?_,fun i x U=>?_⟩
 ·rw[sc]
  exact .row h (by rw[mr,eo (by simp)]) (by simp) (fun _=>⟨cW _,wN aP (by decide)⟩) (fun _=>rfl)
 ·have ao:=eU U
  rw[sc] at ao;have kA:=cb U;rw[List.mem_replicate] at kA;obtain rfl:=kA.2;rw[List.drop_replicate,List.take_replicate,mu (by omega)];exact⟨none,0,rfl,3,.nil⟩
section
variable {Q:dD Tryz.prog}{g0:Nat}{am ad:Nat}{s:Bool}{aY:Int}{pl:Nat}{cY:Option Addr}{cl:Nat}{l:List Int}{bU:List ep}{so:Option Addr}{nI:Nat}
theorem ab1(hE:l.length<=1000000)(dE:pl<=4)(zm:aY<=1000)(kb:JQ pl bU)(OG:bU.length<=100):∀(lv:List ep) (L:Nat),bU.drop L=lv->L<=bU.length->MQ Q g0 am ad s aY pl cY cl l bU so nI lv L:=by
 intro lv;induction lv with
 |nil=>intro L aV bS;exact TH hE dE zm kb OG aV bS fun p kh q=>by cases q
 |cons p r aI=>
  intro L aV bS;refine TH hE dE zm kb OG aV bS fun hO kh q=>?_;injection q with bb a7;subst a7
  obtain⟨aa,_,aF⟩:=NU aV;exact aI (L+1) aF aa
theorem XW{J:aH}{F:List Fz}{n:Int}{a:Nat}(fJ:∀x∈F,∃(bV:Nat) (nR:Int),x=⟨30,[.pointer (some ⟨ad,0,none⟩),.int .i64 nR],[ka ad cY cl l bV],J,fun u m' af=>u=.int .i64 (ej (l.drop bV) nR)/\m'=[ka ad cY cl l (kM l bV nR)]/\J=af,false⟩):
 ∀x∈F,x.f=30->x.bT=[.pointer (some ⟨ad,0,none⟩),.int .i64 n]->(x.bf=[ka ad cY cl l a]/\x.J=J/\x.eP=fun u m' af=>u=.int .i64 (ej (l.drop a) n)/\m'=[ka ad cY cl l (kM l a n)]/\J=af)\/(∀H,Inv (bd Q g0).g0 (lo x.bf H x.J) x.J x.bf H->Inv (bd Q g0).g0 (lo [ka ad cY cl l a] H J) J [ka ad cY cl l a] H->False)\/x.new=true:=by
 intro x U _ aP;obtain⟨bV,nR,rfl⟩:=fJ x U;injection aP with _ aP
 injection aP with aP _
 injection aP with _ aP
 subst aP;by_cases h:bV=a
 ·subst h;exact .inl ⟨rfl,rfl,rfl⟩
 ·refine .inr (.inl fun H aa ae=>h ?_)
  have:=akt aa ae;injection this with _ this
  injection this with this _
  injection this with _ this
  omega
theorem YB{α:Type}{x y z u:α}{v:List α}:(x::y::z::u::v).Perm (v++[x,y,z,u]):=(hU (l₁:=[x,y,z,u]))
theorem amC{α:Type}{x y z u:α}{v:List α}:((z::y::u::v)++[x]).Perm (v++[x,y,z,u]):=by
 refine(hU (l₂:=[x])).trans ?_;exact((List.Perm.swap y z _).cons x).trans YB
theorem amD{α:Type}{x y z:α}{v:List α}:(x::y::z::v).Perm (v++[x,y,z]):=(hU (l₁:=[x,y,z]))
theorem M6{e:TypeId}{sz:Nat}:hj e sz (.slice none 0 0) 0 [] []:=.inl ⟨.nil,(fun _ _ _ _ _ h=>by cases h),(fun _ _ _ h=>by cases h)⟩
theorem amE{α:Type}{x y z:α}{u v w:List α}:((x::y::(u++(v++w)))++[z]).Perm (v++(z::x::y::(u++w))):=
 (hU (l₂:=[z])).trans Rd
theorem amF{α:Type}{x y z:α}{u w:List α}:(z::x::y::(u++w)).Perm (w++(z::x::y::u)):=hU (l₁:=z::x::y::u)
theorem af6{J:aH}(av:dI J (.slice cY l.length cl) l)(hE:l.length<=1000000)(rL:1<=pl)(dE:pl<=4)(Wh:1<=aY)(zm:aY<=1000):
 Fn (bd Q g0) 13 [.slice cY l.length cl,.int .i64 (pl:Int),.int .i64 aY,.bool false] [] J (fun u m' af=>J.le af/\m'=[]/\∃aT aQ aK ci,u=hb (vB aY pl l) aT aQ aK ci/\fH af (vB aY pl l) aT aQ aK ci):=by
 have ajv:=pN (l:=l) (n:=5) (by omega);refine Fn.cH (cM Tryz.func13) rfl rfl fun H=>?_;refine rg ?_;refine' W.step rfl (.of (eT rfl rfl rfl (MK Q g0) rfl rfl rfl fun hr=>?_));refine bi ?_;refine aM ?_;refine dK fun yJ=>?_;refine aM ?_;refine dK fun va=>?_;refine I V.az ?_;refine bi ?_;refine aM ?_;refine dC ?_;refine bi ?_;refine aM ?_;refine I V.aG ?_;refine' W.step rfl (Exec.call rfl rfl rfl rfl rfl rfl rfl (bf:=[ka _ cY cl l 0]) (bM:=[_,_]) (List.Perm.swap _ _ _) trivial (B7 av hE (cy _) (by decide)) ?_);rintro v m' af hle ⟨rfl,rfl,rfl⟩;rw[mr];refine I V.bt ?_;refine I V.az ?_;refine ns ?_;refine ab.block ?_;refine aj ?_;refine ab.gN (List.Perm.swap _ _ _) ?_;refine' ab.c0 (l':=[(10,.int .i64 (((1+ej l 5).toNat):Int)),(1,_),(8,_),(9,_)]) ⟨?p1,rfl,rfl,rfl,trivial⟩ (bu _) ?_;case p1=>exact bP
 refine aj ?_;refine' ab.dF (fun(bC:Nat×(List ep)×Nat×Value×(List Value)×aN)=>match bC with|(k,bU,a,gY,cells,EL)=>⟨[(10,.int .i64 (k:Int))],(va,.row (we yJ gY (.slice none 0 0) aY 1 false false pl (.slice none 0 0) (.slice none 0 0)) 85)::ka yJ cY cl l a::(hr,.row [.int .i64 0,.slice none 0 0,.slice none 0 0] 27)::EL,J,k<=5/\uy pl (1+ej l 5).toNat (fY l 5)=(bU++(uy pl k (l.drop a)).1,(uy pl k (l.drop a)).2)/\a<=l.length/\bU.length+k<=5/\Acc 88 3 gY bU.length cells EL/\hp 3 (fun _=>JU) cells bU,k⟩) ⟨(1+ej l 5).toNat,[],kM l 0 5,.slice none 0 0,[],[]⟩ ?hs ?bA
 case hs=>refine⟨by show(1+ej l 5).toNat<=5;omega,by rw[yQ];rfl,tv (cy _),by show 0+(1+ej l 5).toNat<=5;omega,.nil,rfl,fun i x h=>by cases h⟩
 case bA=>
  rintro⟨k,bU,a,gY,cells,EL⟩ hinv;try simp only at hinv
  obtain⟨aO,sQ,a1,asL,cw,oZ⟩:=hinv;obtain⟨bv,gJ,rfl,Cn⟩:=cw.iN;refine rg ?_;refine I V.ag ?_;refine I V.aZ ?_;refine ns ?_;refine If (fun acq=>?_) fun acq=>?_
  ·refine aj ?_;refine ab.skip ?_;refine aj ?_;refine ab.block ?_;refine aj ?_;refine ab.draw rfl (by kernel_rfl) (bc:=[.val 0,.val 1,.val 2,.val 3,.val 4,.val 5,.val 6,.val 7,.val 8,.val 9,.val 10,.val 13,.val 14,.val 15,.val 16,.val 19,.val 20,.val 21,.val 22,.bR 11,.val 12,.cA [22,21,20,19,16,15,14,13,4,3,2,1,0],.bR 17,.val 18,.cA [22,21,20,19,12,4,3,2,1,0],.bR 23,.val 24,.gk 25,.cA [24,18,12,4,3,2,1,0],.bR 26,.val 27,.val 28,.cA [0],.bR 29]) (by kernel_rfl) ?_;refine cq ?_;refine al rfl V.aG ?_;refine cq ?_;refine al rfl V.aG ?_;refine al rfl V.ag ?_;refine al rfl V.bt ?_;refine cq ?_;refine al rfl V.aG ?_;refine cq ?_;refine al rfl V.aG ?_;refine a8.IJ ?_;refine' ga.call rfl rfl rfl rfl rfl rfl rfl rfl rfl (fun x U=>absurd U JK) (bf:=[ka _ cY cl l a]) (bM:=_::_::EL) (List.Perm.swap _ _ _) trivial (B7 av hE a1 (by omega)) ?_;rintro v m' af hle ⟨rfl,rfl,rfl⟩;refine ga.val rfl rfl rfl rfl V.bt ?_;refine ga.cA eX ?_;refine' ga.call rfl rfl rfl rfl rfl rfl rfl rfl rfl (XW (fun x U=>by rcases e3.1 U with rfl|U;exact⟨_,_,rfl⟩;cases U)) (bf:=[ka _ cY cl l _]) (bM:=_::_::EL) (.refl _) trivial (B7 av hE (tv a1) (by omega)) ?_;rintro v m' af hle ⟨rfl,rfl,rfl⟩;refine ga.val rfl rfl rfl rfl V.bt ?_;refine ga.cA eX ?_;refine' ga.call rfl rfl rfl rfl rfl rfl rfl rfl rfl (XW (fun x U=>by rcases e3.1 U with rfl|U;exact⟨_,_,rfl⟩;rcases e3.1 U with rfl|U;exact⟨_,_,rfl⟩;cases U)) (bf:=[ka _ cY cl l _]) (bM:=_::_::EL) (.refl _) trivial (B7 av hE (tv (tv a1)) (by omega)) ?_;rintro v m' af hle ⟨rfl,rfl,rfl⟩;refine ga.II (fun x U=>JH (f:=fun x=>(x.f,x.bT)) U) ?_
   refine al rfl V.jl ?_;refine a8.buildSlice rfl rfl rfl rfl rfl rfl (Zg Q g0) rfl rfl rfl fun abk=>?_;refine a8.cA eX ?_;refine' a8.fP rfl rfl (kk rfl rfl rfl rfl rfl rfl (Zg Q g0) (ao9 Q g0) (fun i q=>by cases q) ?cw ?hm ?U ?cr ?ca ?av fun aat XO KO=>?_);case cw=>assumption
   case hm=>exact YB
   case U=>exact hR
   case cr=>first|rfl|(simp;done)|(simp;omega)
   case ca=>first|rfl|exact hf _
   case av=>exact cc
   obtain⟨Ts,iv,rfl,auB⟩:=KO.iN;refine cq ?_;refine a8.cA eX ?_;refine kn rfl ?_;refine a8.nil ?_;refine ab.eC (m':=(va,.row (we yJ (.slice Ts (bU.length+1) iv) (.slice none 0 0) aY 1 false false pl (.slice none 0 0) (.slice none 0 0)) 85)::ka yJ cY cl l (kM l (kM l (kM l a (pl+1)) 2) 16)::(hr,.row [.int .i64 0,.slice none 0 0,.slice none 0 0] 27)::XO) (h2:=[(abk,_)]) amC ?_;refine rg ?_;refine I V.ag ?_;refine I V.bt ?_;refine I V.az ?_;refine a6 ?_;refine cB ⟨k -1,bU++[⟨ej (l.drop a) (pl+1) -1,2+ej (fY (l.drop a) (pl+1)) 2,ej (fY (fY (l.drop a) (pl+1)) 2) 16⟩],kM l (kM l (kM l a (pl+1)) 2) 16,.slice Ts (bU.length+1) iv,cells++[.int .i64 (ej (l.drop a) (pl+1) -1),.int .i64 (2+ej (fY (l.drop a) (pl+1)) 2),.int .i64 (ej (fY (fY (l.drop a) (pl+1)) 2) 16)],XO⟩ ?_;obtain⟨k,rfl⟩:∃ft,k=ft+1:=⟨k -1,by omega⟩;have bm:=pN (l:=l.drop a) (n:=(pl:Int)+1) (by omega);have a2:=pN (l:=fY (l.drop a) (pl+1)) (n:=2) (by omega);have aL:IntKind.i64.wrap (ej (l.drop a) (pl+1) -1)=ej (l.drop a) (pl+1) -1:=wrap_i64 (by omega) (by omega);have bk:IntKind.i64.wrap (2+ej (fY (l.drop a) (pl+1)) 2)=2+ej (fY (l.drop a) (pl+1)) 2:=wrap_i64 (by omega) (by omega);simp only[yQ] at KO;rw[aL,bk] at KO;refine⟨by omega,by rw[sQ,yQ,yQ,yQ,gw];rfl,tv (tv (tv a1)),by rw[dP];show bU.length+1+_<=5;omega,KO.uL (by simp) rfl,oZ.app rfl rfl⟩
  ·refine aj ?_;refine ab.exit ?_;refine Acc.hQ cw amD (fun e2 cF lj=>?_);obtain rfl:k=0:=by omega
   have Wg:Iq pl l=bU:=by unfold Iq;rw[sQ];exact gj _
   have lg:JQ pl bU:=by rw[<-Wg];exact XD.1
   have BE:(uy pl (1+ej l 5).toNat (fY l 5)).2=l.drop a:=by rw[sQ];rfl
   refine rg ?_;refine aM ?_;refine' W.step rfl (.of (p4 rfl rfl rfl rfl rfl (nt Q g0) ?bw ?aa ?ae fun JY=>?_));case bw=>exact cc
   case aa=>exact cc
   case ae=>exact cc
   rw[CR,cx];refine W.fw (x:=(List.replicate pl (Value.slice none 0 0),22)) rfl fun dU ag4=>?_;have hD:=ab1 (Q:=Q) (g0:=g0) (am:=va) (ad:=yJ) (s:=false) (cY:=cY) (cl:=cl) (aY:=aY) (nI:=gJ) (so:=bv) hE dE zm lg (by omega) bU 0 rfl (cy _) _ (List.replicate pl []) (I8 (l.drop a)) a (.slice none 0 0) (.slice none 0 0) (.slice none 0 0) [] [] [] (some ⟨JY,0,none⟩) pl ((av.mono cF).mono dU) ((⟨_,lj,fun j x U=>oZ.2 j x U⟩:fc e2 88 3 JU (.slice bv bU.length gJ) bU).mono dU fun _ _ q=>q) ⟨rfl,rfl,(fun x U=>by cases U),(fun k v h=>by cases h),(fun k v y h=>by cases h),by show((0:Nat):Int)+1<=aY;omega,cW _⟩ (by show(1:Int)<=1;omega) (by simp) (fun s hs=>by rw[wL hs];rfl) (aey ag4 (by omega)) ⟨a1,rfl,⟨[],M6,rfl,fun i x h=>by cases h⟩,⟨[],M6,rfl,fun i x h=>by cases h⟩,⟨[],M6,rfl,fun i x h=>by cases h⟩,fun x U=>by cases U⟩;rw[sc] at hD;refine' W.step rfl (Exec.call rfl rfl rfl rfl rfl rfl rfl (bf:=iZ va yJ _ aY false pl cY cl l 1 a _ _ _ [] [] []) (bM:=[_]) (.refl _) trivial (hD) ?_);rintro v m' q1 ie ⟨_,rfl,bV,ph,EU,o8,wg,sZ,uz,rfl,dt⟩;obtain⟨⟨arl,arX,rfl,auU⟩,⟨J',Kj,rfl,anj⟩,⟨abR,acV,rfl,auL⟩⟩:=dt.GY;refine bi ?_;refine aM ?_;refine I V.c9 ?_;refine dC ?_;refine a6 ?_;obtain⟨aQ,aP,ua⟩:=dt.n;obtain⟨ci,ao,vK⟩:=dt.i;refine hj.hQ aP amE (fun wJ ke kR=>?_);refine hj.hQ ao amF (fun p6 mh ajJ=>?_);have aia:vB aY pl l=⟨(pl:Int),(l4 aY pl bU 0 (List.replicate pl []) (I8 (l.drop a))).ns,(l4 aY pl bU 0 (List.replicate pl []) (I8 (l.drop a))).is⟩:=by unfold vB;rw[Wg,BE];rfl
   refine aj ?_;refine ab.ret ?_;refine c5 ?_;rw[aia];exact⟨(aH.le.trans cF dU).trans ((ie.trans ke).trans mh),rfl,J',Kj,abR,acV,rfl,⟨_,kR.mono mh,fun j x U=>(ua.2 j x U).mono (ke.trans mh)⟩,⟨_,ajJ,fun j x U=>vK.2 j x U⟩⟩
end
end
end Go.Opn
namespace Go.Opn
noncomputable section
structure jg (g:bq):Prop where
 dH:1<=g.pl
 ij:g.pl<=3
 bX:1<=g.ns.length
 de:g.ns.length<=25
 i2:g.is.length<=25
 yL:∀y∈g.is,1<=y.2/\y.2<=3
 kids:∀(i:Nat) (x:cR),g.ns[i]?=some x->∀c∈x.ak,(i:Int)<c/\c<g.ns.length
 kind:∀x∈g.ns,(x.k=3/\x.ak=[]/\(x.fF.length:Int)=g.pl/\∀w∈x.fF,-3<=w/\w<=3)\/
  (x.k=1/\x.ws.length=x.ak.length/\2<=x.ak.length/\x.ak.length<=3/\∀w∈x.ws,1<=w/\w<=3)\/
  (x.k=2/\1<=x.ak.length/\x.ak.length<=3/\0<=x.p/\x.p<g.pl/\∃k:Nat,x.i=(k:Int)/\g.is[k]?=some (x.p,(x.ak.length:Int)))
theorem af5{most:Int}{pl:Nat}{bU:List ep}{l:List Int}(kb:BY pl bU)(hm:1<=most)(K3:most<=25)(rL:1<=pl)(HI:pl<=3):jg (oT most pl bU l):=by
 have dd:=Od (l:=l) kb hm;generalize e6:vC most pl bU l=σ at dd;have aq:oT most pl bU l=⟨pl,σ.ns,σ.is⟩:=by unfold oT;rw[e6]
 rw[aq];have cV:0<σ.ns.length:=dd.lt;have ai5:σ.cI=0:=by rw[dd.cI];rfl
 have HW:=dd.gD.sum;have WX:=dd.gD.uP;have rG:=dd.gD.is;have rD:∀(c:Nat) (x:cR),σ.ns[c]?=some x->∃dQ L,tj pl bU σ c x dQ L:=fun c x U=>by
  obtain⟨y,dQ,L,h⟩:=dd.px c (cy _) (eU U);have:=h.U;rw[U] at this;injection this with this;subst this
  exact⟨dQ,L,h⟩
 refine⟨by show 1<=(pl:Int);omega,by show(pl:Int)<=3;omega,cV,by show σ.ns.length<=25;omega,by show σ.is.length<=25;omega,fun y ai=>?_,fun i x U c aC=>?_,fun x U=>?_⟩
 ·obtain⟨k,aO⟩:=kp.1 ai;have ay:=dj (l:=σ.vs) (i:=k) (by have:=eU aO;show k<σ.vs.length;rw[<-rG];exact this);exact(dd.gD.ok k _ y ay aO).2
 ·obtain⟨dQ,L,h⟩:=rD i x U;obtain⟨j,a'⟩:=kp.1 aC;obtain⟨aa,ae,_⟩:=h.aO j c a';exact⟨aa,ae⟩
 ·obtain⟨c,aC⟩:=kp.1 U;obtain⟨dQ,L,h⟩:=rD c x aC;rcases h.rG with⟨aa,ae,aF,bo,eB,ht,lI⟩|⟨aa,ae,aF,bo,eB,ht,lI,A',_⟩|⟨aa,ae,aF,bo,eB,P,s,k,cO,ed,gr,iG,mK,qI,mn⟩
  ·exact .inl ⟨aa,bo,by show(x.fF.length:Int)=(pl:Int);omega,lI⟩
  ·exact .inr (.inl ⟨aa,eB,ht,lI,A'⟩)
  ·have dt:=kb P (cb cO);exact .inr (.inr ⟨aa,bo,eB,by omega,by show x.p<(pl:Int);omega,k,iG,by rw[gr];exact mn⟩)
def lz(g:bq)(l:List (List Int))(cm ao:Int):Prop:=l.length=g.is.length/\∀(i:Nat) (r:List Int) (y:Int×Int),l[i]?=some r->g.is[i]?=some y->(r.length:Int)=y.2/\∀v∈r,cm<=v/\v<=ao
theorem lz.wide{g:bq}{l:List (List Int)}{cm ao lo' hi':Int}(h:lz g l cm ao)(aa:lo'<=cm)(ae:ao<=hi'):lz g l lo' hi':=
 ⟨h.1,fun i r y aw ai=>⟨(h.2 i r y aw ai).1,fun v ay=>by have:=(h.2 i r y aw ai).2 v ay;omega⟩⟩
theorem lz.get{g:bq}{l:List (List Int)}{cm ao:Int}(h:lz g l cm ao){i:Nat}{y:Int×Int}(ai:g.is[i]?=some y):∃r,l[i]?=some r/\(r.length:Int)=y.2/\∀(k:Nat) v,r[k]?=some v->cm<=v/\v<=ao:=by
 have ao:i<l.length:=by rw[h.1];exact eU ai
 have aw:=dj ao;exact⟨_,aw,(h.2 i _ y aw ai).1,fun k v ay=>(h.2 i _ y aw ai).2 v (cb ay)⟩
theorem lz.row{g:bq}{l:List (List Int)}{cm ao:Int}(h:lz g l cm ao){i:Nat}{r:List Int}(aw:l[i]?=some r):∃y,g.is[i]?=some y/\(r.length:Int)=y.2/\∀(k:Nat) v,r[k]?=some v->cm<=v/\v<=ao:=by
 have ao:i<g.is.length:=by rw[<-h.1];exact eU aw
 have ai:=dj ao;exact⟨_,ai,(h.2 i _ _ aw ai).1,fun k v ay=>(h.2 i _ _ aw ai).2 v (cb ay)⟩
theorem lz.len{g:bq}{l:List (List Int)}{cm ao:Int}(aq:jg g)(h:lz g l cm ao):l.length<=25/\∀r∈l,1<=r.length/\r.length<=3:=by
 refine⟨by rw[h.1];exact aq.i2,fun r aw=>?_⟩;obtain⟨i,ao⟩:=kp.1 aw;obtain⟨y,ai,aa,_⟩:=h.row ao;have:=aq.yL y (cb ai);omega
theorem lz.put{g:bq}{l:List (List Int)}{cm ao v:Int}{i k:Nat}{r:List Int}(h:lz g l cm ao)(aw:l[i]?=some r)(aa:cm<=v)(ae:v<=ao):lz g (l.set i (r.set k v)) cm ao:=by
 refine⟨by rw[fz];exact h.1,fun j dx y ni ai=>?_⟩;rw[kJ] at ni;split at ni
 ·rename_i q;subst q;rw[aE (eU aw)] at ni;injection ni with ni;subst ni
  obtain⟨bm,a2⟩:=h.2 i r y aw ai;refine⟨by rw[fz];exact bm,fun w hw=>?_⟩;rcases Ay hw with q|q
  ·exact a2 w q
  ·subst q;exact⟨aa,ae⟩
 ·exact h.2 j dx y ni ai
theorem lz.L2{g:bq}{l:List (List Int)}{cm ao:Int}{i:Nat}{r dx:List Int}(h:lz g l cm ao)(aw:l[i]?=some r)(aa:dx.length=r.length)(ae:∀v∈dx,cm<=v/\v<=ao):lz g (l.set i dx) cm ao:=by
 refine⟨by rw[fz];exact h.1,fun j s y hs ai=>?_⟩;rw[kJ] at hs;split at hs
 ·rename_i q;subst q;rw[aE (eU aw)] at hs;injection hs with hs;subst hs
  obtain⟨bm,a2⟩:=h.2 i r y aw ai;exact⟨by rw[aa];exact bm,ae⟩
 ·exact h.2 j s y hs ai
def jE(g:bq):List (List Int):=g.is.map fun y=>List.replicate y.2.toNat 0
theorem aaJ{g:bq}(aq:jg g):lz g (jE g) 0 0:=by
 refine⟨by unfold jE;simp,fun i r y aw ai=>?_⟩;unfold jE at aw;rw[oF,ai] at aw;simp only[FN,cp] at aw;subst aw;have:=aq.yL y (cb ai);refine⟨by rw[sc];omega,fun v ay=>by rw[wL ay];omega⟩
def wR(g:bq)(s:List (List Int)):Prop:=lz g s 0 65536/\∀r∈s,r.sum=65536
theorem Fg{l:List Int}{k:Nat}{x:Int}(h:l[k]?=some x):(l.take (k+1)).sum=(l.take k).sum+x:=by
 rw[nY,h];simp
theorem ZH{l:List Int}{k:Nat}{x:Int}(h:l[k]?=some x):(l.drop k).sum=x+(l.drop (k+1)).sum:=by
 have aO:=eU h;rw[ny aO];have:l[k]=x:=by rw[dj aO] at h;injection h
 rw[this];simp
theorem ZK{l:List Int}{k:Nat}:l.sum=(l.take k).sum+(l.drop k).sum:=by
 rw[<-List.sum_append,SP]
theorem z8{l:List Int}(h:∀v∈l,0<=v):0<=l.sum:=by
 induction l with
 |nil=>exact JB _
 |cons a l aI=>
  have aa:=h a (.head _);have ae:=aI fun v ay=>h v (.tail _ ay);rw[SN];omega
theorem r6{l:List Int}(h:∀v∈l,0<=v)(k:Nat):0<=(l.take k).sum/\(l.take k).sum<=l.sum:=by
 have aa:=z8 (l:=l.take k) fun v ay=>h v (SI ay);have ae:=z8 (l:=l.drop k) fun v ay=>h v (MZ ay);have:=ZK (l:=l) (k:=k);omega
theorem Mk{l:List Int}{b:Int}(h:∀v∈l,v<=b):l.sum<=b*l.length:=by
 induction l with
 |nil=>simp
 |cons a l aI=>
  have aa:=h a (.head _);have ae:=aI fun v ay=>h v (.tail _ ay);rw[SN,jh];have:b*((l.length+1:Nat):Int)=b*l.length+b:=by rw[Int.natCast_add,Su];simp
  omega
theorem ZI{l:List Int}{b:Int}(h:∀v∈l,b<=v):b*l.length<=l.sum:=by
 induction l with
 |nil=>simp
 |cons a l aI=>
  have aa:=h a (.head _);have ae:=aI fun v ay=>h v (.tail _ ay);rw[SN,jh];have:b*((l.length+1:Nat):Int)=b*l.length+b:=by rw[Int.natCast_add,Su];simp
  omega
theorem Ml{l:List Int}(h:∀v∈l,0<=v){k:Nat}{x:Int}(U:l[k]?=some x):x<=l.sum:=by
 have aa:=r6 h k;have ae:=z8 (l:=l.drop (k+1)) fun v ay=>h v (MZ ay);have aF:=ZK (l:=l) (k:=k);have bo:=ZH U;omega
theorem ZJ{l:List Int}{k:Nat}{x y:Int}(h:l[k]?=some x):(l.set k y).sum=l.sum -x+y:=by
 induction l generalizing k with
 |nil=>cases h
 |cons a l aI=>
  cases k with
  |zero=>simp at h;subst h;simp;omega
  |succ k=>simp at h;simp[aI h];omega
end
end Go.Opn

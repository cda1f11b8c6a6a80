/- A part of the proof of SampleParts. -/
import Derived.Test.YtdbhjgpppmkagaaGreatCbm
import Derived.Test.YtdbhjgpppmkagaaGreatCbb
import Derived.Test.YtdbhjgpppmkagaaGreatCbg
import Derived.Test.YtdbhjgpppmkagaaGreatCaz
import Derived.Test.YtdbhjgpppmkagaaGreatCbh
import Derived.Test.YtdbhjgpppmkagaaGreatCbi
import Derived.Test.YtdbhjgpppmkagaaGreatCbj
set_option maxRecDepth 100000
set_option maxHeartbeats 8000000
set_option linter.unusedVariables false
set_option linter.unusedSimpArgs false
namespace Go.Opn
noncomputable section
open Go.Cre Go.RowKit Go.Proofs
theorem hf.l4{K:eN}{B:dO}{m:aI}{J:aA}{cx:Exit->b9->aI->aA->Prop}{c:Code}{e:TypeId}{aj k:Nat}{v:Value}{cells:List Value}{aY eA:aI}{E:b9}(h:hf e aj v k cells aY)(hm:m.Perm (aY++eA))(aH:∀ag,J.le ag->hl ag e aj v k cells->ae K B c E eA ag cx):ae K B c E m J cx:=by
 rcases h with⟨h,_,_⟩|⟨a,full,rest,rfl,rfl,aK,bh,ff⟩
 ·exact Acc.l4 h hm aH
 ·refine ae.gZ hm.symm ?_
  refine ae.lH (x:=(full,e)) rfl fun hle=>?_;exact aH _ hle (.row (aA.mf _ _ _) (by rw[m7];exact bh) (by rw[<-bh,fc];omega) (fun q=>absurd rfl q) (fun _=>rfl))
def sK(pl:Nat):Nat->List Int->List ek×List Int
 |0,l=>([],l)
 |k+1,l=>(⟨eg l (pl+1) -1,2+eg (gm l (pl+1)) 2,eg (gm (gm l (pl+1)) 2) 16⟩::(sK pl k (gm (gm (gm l (pl+1)) 2) 16)).1,(sK pl k (gm (gm (gm l (pl+1)) 2) 16)).2)
theorem Um{pl:Nat}:∀{k:Nat} {l:List Int},Gx pl (sK pl k l).1/\(sK pl k l).1.length=k:=by
 intro k;induction k with
 |zero=>intro l;exact⟨fun p h=>(by cases h),rfl⟩
 |succ k aG=>
  intro l;obtain⟨aa,ab⟩:=@aG (gm (gm (gm l (pl+1)) 2) 16);refine⟨fun p au=>?_,by show _+1=_;rw[ab]⟩;rcases ft.1 au with rfl|au
  ·have bl:=oJ (l:=l) (n:=(pl:Int)+1) (by omega)
   have bF:=oJ (l:=gm l (pl+1)) (n:=2) (by omega);have bO:=oJ (l:=gm (gm l (pl+1)) 2) (n:=16) (by omega);exact⟨by show -1<=eg l (pl+1) -1;omega,by show eg l (pl+1) -1<_;omega,by show 2<=2+eg _ _;omega,by show 2+eg _ _<=3;omega,bO.1,by show eg _ _<=15;omega⟩
  ·exact aa p au
def Fk(pl:Nat)(l:List Int):List ek:=(sK pl (1+eg l 5).toNat (gm l 5)).1
def ly (aY:Int)(pl:Nat)(l:List Int):bp:=nK aY pl (Fk pl l) (sK pl (1+eg l 5).toNat (gm l 5)).2
theorem aao{J:aA}{a n:Nat}(h:J a=some (List.replicate n (Value.slice none 0 0),22))(aM:n<=100):fX J 22 1 (k3 J) (.slice (some ⟨a,0,none⟩) (List.replicate n ([]:List Int)).length n) (List.replicate n []):=by
 refine⟨List.replicate n (Value.slice none 0 0),?_,fun i x I=>?_⟩
 ·rw[kJ]
  exact .row h (by rw[m7,fZ (by simp)]) (by simp) (fun _=>⟨dH _,r1 aM (by decide)⟩) (fun _=>rfl)
 ·have ak:=hH I
  rw[kJ] at ak;have mW:=cV I;rw[List.mem_replicate] at mW;obtain rfl:=mW.2;rw[List.drop_replicate,List.take_replicate,k4 (by omega)];exact⟨none,0,rfl,3,.nil⟩
section
variable {Q:db Tryz.prog}{g0:Nat}{am ad:Nat}{s:Bool}{aY:Int}{pl:Nat}{c5:Option Addr}{cl:Nat}{l:List Int}{bI:List ek}{qV:Option Addr}{mM:Nat}
theorem YD(im:l.length<=1000000)(dq:pl<=4)(EI:aY<=1000)(jQ:Gx pl bI)(LP:bI.length<=100):∀(lv:List ek) (L:Nat),bI.drop L=lv->L<=bI.length->JU Q g0 am ad s aY pl c5 cl l bI qV mM lv L:=by
 intro lv;induction lv with
 |nil=>intro L aS bB;exact QS im dq EI jQ LP aS bB fun p jV q=>by cases q
 |cons p r aG=>
  intro L aS bB;refine QS im dq EI jQ LP aS bB fun hK jV q=>?_;injection q with aZ aR;subst aR
  obtain⟨aa,_,aK⟩:=K4 aS;exact aG (L+1) aK aa
theorem UE{J:aA}{F:List CH}{n:Int}{a:Nat}(fz:∀x∈F,∃(bA:Nat) (n':Int),x=⟨16,[.pointer (some ⟨ad,0,none⟩),.int .i64 n'],[jM ad c5 cl l bA],J,fun u m' ag=>u=.int .i64 (eg (l.drop bA) n')/\m'=[jM ad c5 cl l (ks l bA n')]/\J=ag,false⟩):
 ∀x∈F,x.f=16->x.bJ=[.pointer (some ⟨ad,0,none⟩),.int .i64 n]->(x.a4=[jM ad c5 cl l a]/\x.J=J/\x.dT=fun u m' ag=>u=.int .i64 (eg (l.drop a) n)/\m'=[jM ad c5 cl l (ks l a n)]/\J=ag)\/(∀H,Inv (a2 Q g0).g0 (iO x.a4 H x.J) x.J x.a4 H->Inv (a2 Q g0).g0 (iO [jM ad c5 cl l a] H J) J [jM ad c5 cl l a] H->False)\/x.new=true:=by
 intro x I _ aM;obtain⟨bA,n',rfl⟩:=fz x I;injection aM with _ aM
 injection aM with aM _
 injection aM with _ aM
 subst aM;by_cases h:bA=a
 ·subst h;exact .inl ⟨rfl,rfl,rfl⟩
 ·refine .inr (.inl fun H aa ab=>h ?_)
  have:=ae5 aa ab;injection this with _ this
  injection this with this _
  injection this with _ this
  omega
theorem Vb{α:Type}{x y z u:α}{v:List α}:(x::y::z::u::v).Perm (v++[x,y,z,u]):=(jn (l₁:=[x,y,z,u]))
theorem ahm{α:Type}{x y z u:α}{v:List α}:((z::y::u::v)++[x]).Perm (v++[x,y,z,u]):=by
 refine(jn (l₂:=[x])).trans ?_;exact((List.Perm.swap y z _).cons x).trans Vb
theorem ahn{α:Type}{x y z:α}{v:List α}:(x::y::z::v).Perm (v++[x,y,z]):=(jn (l₁:=[x,y,z]))
theorem Kl{e:TypeId}{aj:Nat}:hf e aj (.slice none 0 0) 0 [] []:=.inl ⟨.nil,(fun _ _ _ _ _ h=>by cases h),(fun _ _ _ h=>by cases h)⟩
theorem aho{α:Type}{x y z:α}{u v w:List α}:((x::y::(u++(v++w)))++[z]).Perm (v++(z::x::y::(u++w))):=
 (jn (l₂:=[z])).trans N0
theorem ahp{α:Type}{x y z:α}{u w:List α}:(z::x::y::(u++w)).Perm (w++(z::x::y::u)):=jn (l₁:=z::x::y::u)
theorem abB{J:aA}(ay:ew J (.slice c5 l.length cl) l)(im:l.length<=1000000)(k':1<=pl)(dq:pl<=4)(xm:1<=aY)(EI:aY<=1000):
 Fn (a2 Q g0) 5 [.slice c5 l.length cl,.int .i64 (pl:Int),.int .i64 aY,.bool false] [] J (fun u m' ag=>J.le ag/\m'=[]/\∃aT aP bi ci,u=p0 (ly aY pl l) aT aP bi ci/\hB ag (ly aY pl l) aT aP bi ci):=by
 have ad4:=oJ (l:=l) (n:=5) (by omega);refine Fn.dw (dB Tryz.func5) rfl rfl fun H=>?_;refine rg ?_;refine' W.step rfl (.of (ic rfl rfl rfl (Xg Q g0) rfl rfl rfl fun g6=>?_));refine bP ?_;refine aV ?_;refine fG fun o4=>?_;refine aV ?_;refine fG fun GI=>?_;refine U V.a7 ?_;refine bP ?_;refine aV ?_;refine fF ?_;refine bP ?_;refine aV ?_;refine U V.a9 ?_;refine' W.step rfl (Exec.call rfl rfl rfl rfl rfl rfl rfl (a4:=[jM _ c5 cl l 0]) (b2:=[_,_]) (List.Perm.swap _ _ _) trivial (zN ay im (dV _) (by decide)) ?_);rintro v m' ag hle ⟨rfl,rfl,rfl⟩;rw[m7];refine U V.va ?_;refine U V.a7 ?_;refine ns ?_;refine ae.block ?_;refine aJ ?_;refine ae.gZ (List.Perm.swap _ _ _) ?_;refine' ae.fy (l':=[(10,.int .i64 (((1+eg l 5).toNat):Int)),(1,_),(8,_),(9,_)]) ⟨?JJ,rfl,rfl,rfl,trivial⟩ (bV _) ?_;case JJ=>exact ec
 refine aJ ?_;refine' ae.cf (fun(cU:Nat×(List ek)×Nat×Value×(List Value)×aI)=>match cU with|(k,bI,a,g3,cells,BY)=>⟨[(10,.int .i64 (k:Int))],(GI,.row (uh o4 g3 (.slice none 0 0) aY 1 false false pl (.slice none 0 0) (.slice none 0 0)) 61)::jM o4 c5 cl l a::(g6,.row [.int .i64 0,.slice none 0 0,.slice none 0 0] 27)::BY,J,k<=5/\sK pl (1+eg l 5).toNat (gm l 5)=(bI++(sK pl k (l.drop a)).1,(sK pl k (l.drop a)).2)/\a<=l.length/\bI.length+k<=5/\Acc 64 3 g3 bI.length cells BY/\hi 3 (fun _=>Gz) cells bI,k⟩) ⟨(1+eg l 5).toNat,[],ks l 0 5,.slice none 0 0,[],[]⟩ ?al ?cp
 case al=>refine⟨by show(1+eg l 5).toNat<=5;omega,by rw[wN];rfl,r4 (dV _),by show 0+(1+eg l 5).toNat<=5;omega,.nil,rfl,fun i x h=>by cases h⟩
 case cp=>
  rintro⟨k,bI,a,g3,cells,BY⟩ hinv;try simp only at hinv
  obtain⟨aH,rh,aW,am3,fo,nQ⟩:=hinv;obtain⟨bv,eY,rfl,Ji⟩:=fo.jO;refine rg ?_;refine U V.az ?_;refine U V.bm ?_;refine ns ?_;refine If (fun Dq=>?_) fun Dq=>?_
  ·refine aJ ?_;refine ae.skip ?_;refine aJ ?_;refine ae.block ?_;refine aJ ?_;refine ae.draw rfl (by kernel_rfl) (a8:=[.val 0,.val 1,.val 2,.val 3,.val 4,.val 5,.val 6,.val 7,.val 8,.val 9,.val 10,.val 13,.val 14,.val 15,.val 16,.val 19,.val 20,.val 21,.val 22,.cv 11,.val 12,.c9 [22,21,20,19,16,15,14,13,4,3,2,1,0],.cv 17,.val 18,.c9 [22,21,20,19,12,4,3,2,1,0],.cv 23,.val 24,.f' 25,.c9 [24,18,12,4,3,2,1,0],.cv 26,.val 27,.val 28,.c9 [0],.cv 29]) (by kernel_rfl) ?_;refine cm ?_;refine aB rfl V.a9 ?_;refine cm ?_;refine aB rfl V.a9 ?_;refine aB rfl V.az ?_;refine aB rfl V.va ?_;refine cm ?_;refine aB rfl V.a9 ?_;refine cm ?_;refine aB rfl V.a9 ?_;refine a3.IX ?_;refine' gT.call rfl rfl rfl rfl rfl rfl rfl rfl rfl (fun x I=>absurd I PQ) (a4:=[jM _ c5 cl l a]) (b2:=_::_::BY) (List.Perm.swap _ _ _) trivial (zN ay im aW (by omega)) ?_;rintro v m' ag hle ⟨rfl,rfl,rfl⟩;refine gT.val rfl rfl rfl rfl V.va ?_;refine gT.c9 g7 ?_;refine' gT.call rfl rfl rfl rfl rfl rfl rfl rfl rfl (UE (fun x I=>by rcases ft.1 I with rfl|I;exact⟨_,_,rfl⟩;cases I)) (a4:=[jM _ c5 cl l _]) (b2:=_::_::BY) (.refl _) trivial (zN ay im (r4 aW) (by omega)) ?_;rintro v m' ag hle ⟨rfl,rfl,rfl⟩;refine gT.val rfl rfl rfl rfl V.va ?_;refine gT.c9 g7 ?_;refine' gT.call rfl rfl rfl rfl rfl rfl rfl rfl rfl (UE (fun x I=>by rcases ft.1 I with rfl|I;exact⟨_,_,rfl⟩;rcases ft.1 I with rfl|I;exact⟨_,_,rfl⟩;cases I)) (a4:=[jM _ c5 cl l _]) (b2:=_::_::BY) (.refl _) trivial (zN ay im (r4 (r4 aW)) (by omega)) ?_;rintro v m' ag hle ⟨rfl,rfl,rfl⟩;refine gT.IW (fun x I=>CW (f:=fun x=>(x.f,x.bJ)) I) ?_
   refine aB rfl V.lp ?_;refine a3.buildSlice rfl rfl rfl rfl rfl rfl (VV Q g0) rfl rfl rfl fun X7=>?_;refine a3.c9 g7 ?_;refine' a3.ij rfl rfl (qF rfl rfl rfl rfl rfl rfl (VV Q g0) (akc Q g0) (fun i q=>by cases q) ?fo ?hm ?I ?df ?dR ?ay fun ape Uy HK=>?_);case fo=>assumption
   case hm=>exact Vb
   case I=>exact nw
   case df=>first|rfl|(simp;done)|(simp;omega)
   case dR=>first|rfl|exact mX _
   case ay=>exact cQ
   obtain⟨QE,qW,rfl,aos⟩:=HK.jO;refine cm ?_;refine a3.c9 g7 ?_;refine m6 rfl ?_;refine a3.nil ?_;refine ae.e7 (m':=(GI,.row (uh o4 (.slice QE (bI.length+1) qW) (.slice none 0 0) aY 1 false false pl (.slice none 0 0) (.slice none 0 0)) 61)::jM o4 c5 cl l (ks l (ks l (ks l a (pl+1)) 2) 16)::(g6,.row [.int .i64 0,.slice none 0 0,.slice none 0 0] 27)::Uy) (lZ:=[(X7,_)]) ahm ?_;refine rg ?_;refine U V.az ?_;refine U V.va ?_;refine U V.a7 ?_;refine bu ?_;refine e2 ⟨k -1,bI++[⟨eg (l.drop a) (pl+1) -1,2+eg (gm (l.drop a) (pl+1)) 2,eg (gm (gm (l.drop a) (pl+1)) 2) 16⟩],ks l (ks l (ks l a (pl+1)) 2) 16,.slice QE (bI.length+1) qW,cells++[.int .i64 (eg (l.drop a) (pl+1) -1),.int .i64 (2+eg (gm (l.drop a) (pl+1)) 2),.int .i64 (eg (gm (gm (l.drop a) (pl+1)) 2) 16)],Uy⟩ ?_;obtain⟨k,rfl⟩:∃fw,k=fw+1:=⟨k -1,by omega⟩;have bl:=oJ (l:=l.drop a) (n:=(pl:Int)+1) (by omega);have bF:=oJ (l:=gm (l.drop a) (pl+1)) (n:=2) (by omega);have aD:IntKind.i64.wrap (eg (l.drop a) (pl+1) -1)=eg (l.drop a) (pl+1) -1:=wrap_i64 (by omega) (by omega);have a5:IntKind.i64.wrap (2+eg (gm (l.drop a) (pl+1)) 2)=2+eg (gm (l.drop a) (pl+1)) 2:=wrap_i64 (by omega) (by omega);simp only[wN] at HK;rw[aD,a5] at HK;refine⟨by omega,by rw[rh,wN,wN,wN,j0];rfl,r4 (r4 (r4 aW)),by rw[er];show bI.length+1+_<=5;omega,HK.JB (by simp) rfl,nQ.app rfl rfl⟩
  ·refine aJ ?_;refine ae.exit ?_;refine Acc.l4 fo ahn (fun hs fu hR=>?_);obtain rfl:k=0:=by omega
   have S6:Fk pl l=bI:=by unfold Fk;rw[rh];exact fb _
   have lE:Gx pl bI:=by rw[<-S6];exact Um.1
   have ES:(sK pl (1+eg l 5).toNat (gm l 5)).2=l.drop a:=by rw[rh];rfl
   refine rg ?_;refine aV ?_;refine' W.step rfl (.of (CC rfl rfl rfl rfl rfl (sX Q g0) ?bt ?aa ?ab fun o5=>?_));case bt=>exact cQ
   case aa=>exact cQ
   case ab=>exact cQ
   rw[yj,ea];refine W.fj (x:=(List.replicate pl (Value.slice none 0 0),22)) rfl fun gO ab9=>?_;have hP:=YD (Q:=Q) (g0:=g0) (am:=GI) (ad:=o4) (s:=false) (c5:=c5) (cl:=cl) (aY:=aY) (mM:=eY) (qV:=bv) im dq EI lE (by omega) bI 0 rfl (dV _) _ (List.replicate pl []) (FY (l.drop a)) a (.slice none 0 0) (.slice none 0 0) (.slice none 0 0) [] [] [] (some ⟨o5,0,none⟩) pl ((ay.mono fu).mono gO) ((⟨_,hR,fun j x I=>nQ.2 j x I⟩:fX hs 64 3 Gz (.slice bv bI.length eY) bI).mono gO fun _ _ q=>q) ⟨rfl,rfl,(fun x I=>by cases I),(fun k v h=>by cases h),(fun k v y h=>by cases h),by show((0:Nat):Int)+1<=aY;omega,dH _⟩ (by show(1:Int)<=1;omega) (by simp) (fun s al=>by rw[J4 al];rfl) (aao ab9 (by omega)) ⟨aW,rfl,⟨[],Kl,rfl,fun i x h=>by cases h⟩,⟨[],Kl,rfl,fun i x h=>by cases h⟩,⟨[],Kl,rfl,fun i x h=>by cases h⟩,fun x I=>by cases I⟩;rw[kJ] at hP;refine' W.step rfl (Exec.call rfl rfl rfl rfl rfl rfl rfl (a4:=iA GI o4 _ aY false pl c5 cl l 1 a _ _ _ [] [] []) (b2:=[_]) (.refl _) trivial (hP) ?_);rintro v m' JZ xl ⟨_,rfl,bA,n9,B5,nZ,ui,rD,ug,rfl,dC⟩;obtain⟨⟨amd,amv,rfl,aoL⟩,⟨GY,Ha,rfl,aih⟩,⟨Yu,Zh,rfl,aoC⟩⟩:=dC.D2;refine bP ?_;refine aV ?_;refine U V.hb ?_;refine fF ?_;refine bu ?_;obtain⟨aP,aM,q9⟩:=dC.n;obtain⟨ci,ak,tR⟩:=dC.i;refine hf.l4 aM aho (fun PB qb t'=>?_);refine hf.l4 ak ahp (fun CL nl aek=>?_);have adn:ly aY pl l=⟨(pl:Int),(lq aY pl bI 0 (List.replicate pl []) (FY (l.drop a))).ns,(lq aY pl bI 0 (List.replicate pl []) (FY (l.drop a))).is⟩:=by unfold ly;rw[S6,ES];rfl
   refine aJ ?_;refine ae.ret ?_;refine hk ?_;rw[adn];exact⟨(aA.le.trans fu gO).trans ((xl.trans qb).trans nl),rfl,GY,Ha,Yu,Zh,rfl,⟨_,t'.mono nl,fun j x I=>(q9.2 j x I).mono (qb.trans nl)⟩,⟨_,aek,fun j x I=>tR.2 j x I⟩⟩
end
end
end Go.Opn
set_option maxHeartbeats 4000000
namespace Go.Opn
noncomputable section
open Go.Cre Go.RowKit Go.Proofs
section
variable {Q:db Tryz.prog}{g0:Nat}{J:aA}
end
section
variable {Q:db Tryz.prog}{g0:Nat}{J:aA}
end
section
variable {Q:db Tryz.prog}{g0:Nat}{J:aA}
end
section
variable {Q:db Tryz.prog}{g0:Nat}{J:aA}
end
end
end Go.Opn
namespace Go.Opn
noncomputable section
open Go.Cre Go.RowKit
section
variable {K:eN}{B:dO}{o:Oper}{n:Nat}{ds:eQ}{l:List (Nat×Value)}{m m':aI}{J:aA}{eF:b9->aI->aA->Prop}{d:Nat}
end
theorem ahu{α:Type}{bs:List α}{i:Nat}{x:α}(h:bs[i]?=some x):bs.Perm (x::bs.eraseIdx i):=by
 induction bs generalizing i with
 |nil=>cases h
 |cons b bs aG=>
  cases i with
  |zero=>simp at h;subst h;exact .refl _
  |succ i=>simp at h;exact((aG h).cons b).trans (.swap _ _ _)
theorem ahq{α:Type}{bs:List α}{i:Nat}{x:α}(h:bs[i]?=some x)(y:α):(y::bs.eraseIdx i).Perm (bs.set i y):=by
 induction bs generalizing i with
 |nil=>cases h
 |cons b bs aG=>
  cases i with
  |zero=>exact .refl _
  |succ i=>simp at h;exact(List.Perm.swap _ _ _).trans ((aG h).cons b)
def fk(hN:List Int->Value->Nat×cI->Prop)(J:aA)(e:TypeId)(v:Value)(cr:List (List Int))(bs:aI):Prop:=
 ∃vs,hl J e 1 v cr.length vs/\bs.length=cr.length/\∀(i:Nat) l w x,cr[i]?=some l->vs[i]?=some w->bs[i]?=some x->hN l w x
def k1(l:List Int)(w:Value)(x:Nat×cI):Prop:=∃a,w=.slice (some ⟨a,0,none⟩) l.length l.length/\l.length<cR/\x=(a,.row (l.map (Value.int .i64)) 3)
def nA(l:List Int)(w:Value)(x:Nat×cI):Prop:=∃a r,w=.slice (some ⟨a,0,none⟩) l.length cR/\x=(a,.opn (l.map (Value.int .i64)) 3 r 0)
section
variable {hN:List Int->Value->Nat×cI->Prop}{J ag:aA}{e:TypeId}{v:Value}{cr:List (List Int)}{bs:aI}
theorem fk.mono(hle:J.le ag)(h:fk hN J e v cr bs):fk hN ag e v cr bs:=by
 obtain⟨vs,aa,ab⟩:=h;exact⟨vs,aa.mono hle,ab⟩
theorem fk.at(h:fk hN J e v cr bs):∃b c,v=.slice b cr.length c/\(0<cr.length->∃a off cells bn,b=some ⟨a,off,none⟩/\J a=some (cells,bn)/\∀i:Nat,i<cr.length->∃l w x,cr[i]?=some l/\nth cells (off+i*1)=some w/\bs[i]?=some x/\hN l w x/\∀l' dD,hN l' w dD->fk hN J e v (cr.set i l') (bs.set i dD)):=by
 obtain⟨vs,aa,ab,aK⟩:=h;obtain⟨b,c,rfl,a',bd,bz⟩:=aa.inv;refine⟨b,c,rfl,fun au=>?_⟩;obtain⟨a,off,cells,bn,rfl,cM,ha⟩:=bz au;refine⟨a,off,cells,bn,rfl,cM,fun i ak=>?_⟩;have aZ:=du (l:=cr) (i:=i) ak;have aR:=du (l:=vs) (i:=i) (by omega);have bY:=du (l:=bs) (i:=i) (by omega);refine⟨_,_,_,aZ,by rw[s',ha i (by omega)];exact aR,bY,aK _ _ _ _ aZ aR bY,fun l' dD SV=>⟨vs,by rw[hW];exact aa,by rw[hW,hW];exact ab,fun k l w x b4 bX cg=>?_⟩⟩;rw[j1] at b4 cg;split at b4
 ·rename_i q;subst q;rw[aF rfl] at cg;rw[aF (by omega)] at cg;injection b4 with b4;injection cg with cg;subst b4;subst cg
  rw[aR] at bX;injection bX with bX;subst bX
  exact SV
 ·rename_i q;rw[aq q] at cg;exact aK _ _ _ _ b4 bX cg
theorem fk.snoc{vs:List Value}(aa:hl J e 1 v cr.length vs)(ab:∀(i:Nat) l w x,cr[i]?=some l->vs[i]?=some w->bs[i]?=some x->hN l w x)(aK:bs.length=cr.length):fk hN J e v cr bs:=⟨vs,aa,aK,ab⟩
theorem fk.rows(h:fk hN J e v cr bs){ag:aA}(hle:J.le ag)(g':∀l w x,hN l w x->∃y,x.2.rowOf=some y/\∀J:aA,J x.1=some y->ew J w l)(adW:∀x∈bs,∀y,x.2.rowOf=some y->ag x.1=some y):fX ag e 1 (k3 ag) v cr:=by
 obtain⟨vs,aa,ab,aK⟩:=h;refine⟨vs,aa.mono hle,fun i s al=>?_⟩;have ay:=aa.len;have ak:i<cr.length:=(dv.1 al).1;have aR:=du (l:=vs) (i:=i) (by omega);have bY:=du (l:=bs) (i:=i) (by omega);obtain⟨y,a',bd⟩:=g' _ _ _ (aK _ _ _ _ al aR bY);have bz:=bd ag (adW _ (cV bY) _ a');have aD:(vs.drop (i*1)).take 1=[vs[i]]:=by rw[s',od (by omega)];rfl
 rw[aD];obtain⟨b,c,ai,_⟩:=bz.inv;rw[ai] at bz ⊢;exact⟨b,c,rfl,bz⟩
theorem k1.row{l:List Int}{w:Value}{x:Nat×cI}(h:k1 l w x):∃a,w=.slice (some ⟨a,0,none⟩) l.length l.length/\x=(a,.row (l.map (Value.int .i64)) 3)/\∀l':List Int,l'.length=l.length->k1 l' w (a,.row (l'.map (Value.int .i64)) 3):=by
 obtain⟨a,rfl,aa,rfl⟩:=h;exact⟨a,rfl,rfl,fun l' q=>⟨a,by rw[q],by omega,rfl⟩⟩
theorem k1.ok{l:List Int}{w:Value}{x:Nat×cI}(h:k1 l w x):∃y,x.2.rowOf=some y/\∀J:aA,J x.1=some y->ew J w l:=by
 obtain⟨a,rfl,aa,rfl⟩:=h;exact⟨_,rfl,fun J jP=>ew.lit aa jP⟩
end
section
variable {K:eN}{B:dO}{E:b9}{cx:Exit->b9->aI->aA->Prop}
theorem ae.ahZ{c:Code}:∀{bs m eA:aI} {J:aA},m.Perm (bs++eA)->(∀x∈bs,∃y,x.2.rowOf=some y)->
 (∀ag,J.le ag->(∀x∈bs,∀y,x.2.rowOf=some y->ag x.1=some y)->ae K B c E eA ag cx)->ae K B c E m J cx:=by
 intro bs;induction bs with
 |nil=>intro m eA J hm _ aH;exact ae.gZ hm.symm (aH J (aA.le.refl _) (fun x I=>by cases I))
 |cons b bs aG=>
  intro m eA J hm an aH;refine ae.gZ hm.symm ?_;obtain⟨y,ah⟩:=an b (.head _);refine ae.lH (a:=b.1) (b:=b.2) ah fun hle=>aG (.refl _) (fun x I=>an x (.tail _ I)) fun ag S3 cA=>?_;refine aH ag (hle.trans S3) fun x I z bC=>?_;rcases ft.1 I with rfl|I
  ·rw[ah] at bC;injection bC with bC;subst bC
   exact S3 _ _ (aA.mf _ _ _)
  ·exact cA x I z bC
theorem nA.ok{l:List Int}{w:Value}{x:Nat×cI}(h:nA l w x):∃y,x.2.rowOf=some y/\∀J:aA,J x.1=some y->ew J w l:=by
 obtain⟨a,r,rfl,rfl⟩:=h;refine⟨_,rfl,fun J jP=>⟨3,?_⟩⟩;exact .row jP (by rw[m7,fZ (by simp)]) (by simp) (fun q=>absurd rfl q) (fun _=>rfl)
theorem fk.l4{c:Code}{hN:List Int->Value->Nat×cI->Prop}{J:aA}{e:TypeId}{v:Value}{cr:List (List Int)}{bs m eA:aI}(h:fk hN J e v cr bs)(g':∀l w x,hN l w x->∃y,x.2.rowOf=some y/\∀J:aA,J x.1=some y->ew J w l)(hm:m.Perm (bs++eA))(aH:∀ag,J.le ag->fX ag e 1 (k3 ag) v cr->ae K B c E eA ag cx):ae K B c E m J cx:=by
 refine ae.ahZ hm (fun x I=>?_) fun ag hle cA=>aH ag hle (h.rows hle g' cA);obtain⟨vs,aa,ab,aK⟩:=h;obtain⟨i,ak⟩:=lM.1 I;have cP:=(dv.1 ak).1;have ay:=aa.len;obtain⟨y,a',_⟩:=g' _ _ _ (aK i _ _ _ (du (by omega)) (du (by omega)) ak);exact⟨y,a'⟩
end
end
end Go.Opn
namespace Go.Opn
noncomputable section
open Go.Cre Go.RowKit Go.Proofs
section
variable {Q:db Tryz.prog}{g0:Nat}{J:aA}
theorem ew.zY{b:Option Addr}{n c:Nat}{l:List Int}(h:ew J (.slice b n c) l):0<l.length->∃a off cells e,b=some ⟨a,off,none⟩/\J a=some (cells,e)/\∀i:Nat,i<l.length->∃x,l[i]?=some x/\nth cells (off+i*1)=some (.int .i64 x):=fun au=>by
 obtain⟨_,_,aK⟩:=h.get;obtain⟨a,off,cells,e,bh,ff,gz⟩:=aK au;refine⟨a,off,cells,e,bh,ff,fun i ak=>?_⟩;have:=gz i (by omega) (by omega);rwa [ea] at this
theorem Ht{α:Type}{l:List α}{x y:α}{j:Nat}(h:(l++[x])[j]?=some y):l[j]?=some y\/(j=l.length/\y=x):=by
 by_cases q:j<l.length
 ·rw[og q] at h;exact .inl h
 ·have aU:=hH h
  rw[er,Gu] at aU;have:j=l.length:=by omega
  subst this;rw[pd] at h;injection h with h
  exact .inr ⟨rfl,h.symm⟩
theorem qH{g:bp}:(jl g).length=g.is.length:=by unfold jl;simp
theorem JP{g:bp}{i:Nat}{y:Int×Int}(h:g.is[i]?=some y):(jl g)[i]?=some (List.replicate y.2.toNat 0):=by unfold jl;rw[gG,h];rfl
abbrev je(a:Nat)(g:bp)(aT:Option Addr)(aP:Nat)(bi:Option Addr)(ci:Nat):Nat×cI:=(a,.row (w9 g aT aP bi ci) 27)
theorem ahr{α:Type}{a:α}{l:List α}:(a::l).Perm (l++[a]):=(jn (l₁:=[a]) (l₂:=l))
end
section
variable {Q:db Tryz.prog}{g0:Nat}{J:aA}
theorem Xj{J:aA}{g:bp}{aT bi:Option Addr}{aP ci:Nat}:∀(v:Value) m' ag,(J.le ag/\∃bl bs,m'=je bl g aT aP bi ci::bs/\fk k1 ag 22 v (jl g) bs)->∃a b,(a,b)∈m':=by
 rintro v m' ag ⟨_,a,bs,rfl,_⟩;exact⟨_,_,.head _⟩
abbrev z' (g:bp)(s:Int):kM:=⟨0,s,jl g,jl g⟩
end
section
variable {Q:db Tryz.prog}{g0:Nat}{B:dO}{o:Oper}{n:Nat}{ds:eQ}{l:List (Nat×Value)}{m:aI}{J:aA}
end
section
variable {Q:db Tryz.prog}{g0:Nat}{J:aA}
end
def qO(P:Nat->List Int->Prop)(J:aA)(i:Nat)(cells:List Value)(S:List (List Int)):Prop:=cells.length=i/\S.length=i/\∀(j:Nat) r w,S[j]?=some r->cells[j]?=some w->ew J w r/\P j r
theorem qO.mono{P:Nat->List Int->Prop}{J ag:aA}{i:Nat}{cells:List Value}{S:List (List Int)}(hle:J.le ag)(h:qO P J i cells S):qO P ag i cells S:=
 ⟨h.1,h.2.1,fun j r w aa ab=>⟨(h.2.2 j r w aa ab).1.mono hle,(h.2.2 j r w aa ab).2⟩⟩
theorem qO.nil{P:Nat->List Int->Prop}{J:aA}:qO P J 0 [] []:=⟨rfl,rfl,fun j r w h _=>by cases h⟩
theorem qO.app{P:Nat->List Int->Prop}{J:aA}{i:Nat}{cells:List Value}{S:List (List Int)}{r:List Int}{w:Value}(h:qO P J i cells S)(aa:ew J w r)(ab:P i r):qO P J (i+1) (cells++[w]) (S++[r]):=by
 obtain⟨a',bd,bz⟩:=h;refine⟨by simp[a'],by simp[bd],fun j b7 bb b4 bX=>?_⟩;rcases Ht b4 with q|⟨aZ,aR⟩
 ·rcases Ht bX with p|⟨dS,ho⟩
  ·exact bz j b7 bb q p
  ·have:=hH q;omega
 ·rcases Ht bX with p|⟨dS,ho⟩
  ·have:=hH p;omega
  ·rw[aR,ho,aZ,bd];exact⟨aa,ab⟩
theorem qO.tA{P:Nat->List Int->Prop}{J:aA}{e:TypeId}{i:Nat}{cells:List Value}{S:List (List Int)}{v:Value}(h:qO P J i cells S)(ap:hl J e 1 v i cells):fX J e 1 (k3 J) v S:=by
 obtain⟨a',bd,bz⟩:=h;refine⟨cells,by rw[bd];exact ap,fun j r ax=>?_⟩;have aU:=hH ax;have av:=du (l:=cells) (i:=j) (by omega);have aD:(cells.drop (j*1)).take 1=[cells[j]]:=by rw[s',od (by omega)];rfl
 rw[aD];have aa:=(bz j r _ ax av).1;obtain⟨b,c,ai,_⟩:=aa.inv;rw[ai] at aa ⊢;exact⟨b,c,rfl,aa⟩
section
variable {Q:db Tryz.prog}{g0:Nat}{J:aA}
end
theorem x6{cells:List Value}{off:Nat}{v:Value}(i:Nat)(h:i<cells.length)(an:off=i:=by omega):gE off cells [v]=some (cells.set i v):=by
 subst an;have:=Wg (f:=fun v:Value=>v) (L:=cells) (x:=v) h;rwa [List.map_id',List.map_id'] at this
theorem n3{cells:List Value}{off:Nat}{v:Value}(i:Nat)(h:cells[i]?=some v)(an:off=i:=by omega):nth cells off=some v:=by subst an;rw[kk];exact h
theorem ew.addr{J:aA}{b:Option Addr}{n c:Nat}{l:List Int}(h:ew J (.slice b n c) l):addrEq b b=true:=by
 obtain⟨e,h⟩:=h;generalize l.length=k at h;generalize l.map (Value.int .i64)=cs at h;cases h<;>simp[addrEq]
theorem ahX{v w b:Int}(aa:-b<=v)(ab:v<=b)(bt:0<=w):-(b*w)<=v*w/\v*w<=b*w:=by
 have bl:=JX aa bt;have bF:=JX ab bt;rw[Int.neg_mul] at bl;exact⟨bl,bF⟩
section
variable {Q:db Tryz.prog}{g0:Nat}{J:aA}
end
abbrev kh(pre:List Value)(L:List Int)(post:List Value):List Value:=pre++(L.map (Value.int .i64)++post)
theorem Fz{pre post:List Value}{L:List Int}{j k:Nat}{x:Int}(h:L[j]?=some x)(aH:k=pre.length+j):nth (kh pre L post) k=some (.int .i64 x):=by
 subst aH;have ay:=(dv.1 h).1;rw[kk,rY (by omega),og (by rw[ig];omega),show pre.length+j -pre.length=j by omega,gG,h];rfl
theorem Oz{pre post:List Value}{L:List Int}{j k:Nat}{v:Int}(h:j<L.length)(aH:k=pre.length+j):gE k (kh pre L post) [.int .i64 v]=some (kh pre (L.set j v) post):=by
 subst aH;rw[x6 (pre.length+j) (by rw[er,er,ig];omega)];unfold kh;rw[Gv _ _ (by omega),List.set_append_left _ _ (by rw[ig];omega),show pre.length+j -pre.length=j by omega,PN]
theorem getD_some{L:List Int}{j:Nat}{x:Int}(h:L[j]?=some x):L.getD j 0=x:=by rw[oe,h];rfl
theorem aiC{f:FuncId}{aV:List Value}{v:Value}:FU [(f,aV,v)] f=some (aV,v):=by unfold FU;rw[hX];rfl
theorem YC{f:Int->Int->Int}{M:List Int}{j:Nat}(aU:1<=j)(h:f (M.getD j 0) (M.getD (j -1) 0)<0):om f (j -1) (qB M (j -1))=om f j M:=by
 obtain⟨k,rfl⟩:∃k,j=k+1:=⟨j -1,by omega⟩;rw[Nat.add_sub_cancel] at h;show om f k (qB M k)=if f (M.getD (k+1) 0) (M.getD k 0)<0 then om f k (qB M k) else M;rw[aF h]
theorem QR{f:Int->Int->Int}{M:List Int}{j:Nat}(h:¬(1<=j/\f (M.getD j 0) (M.getD (j -1) 0)<0)):om f j M=M:=by
 cases j with
 |zero=>rfl
 |succ k=>
  rw[Nat.add_sub_cancel] at h;show(if f (M.getD (k+1) 0) (M.getD k 0)<0 then om f k (qB M k) else M)=M;rw[aq (fun q=>h ⟨by omega,q⟩)]
section
variable {Q:db Tryz.prog}{g0:Nat}{J:aA}
open Classical in
theorem afb{ad off cap n:Nat}{e:TypeId}{pre post:List Value}{D:List Int}{vi:FuncId}{tr:Array Value}{f:Int->Int->Int}{ok:Int->Prop}{en:aI}{cN:aA}(ET:rU en J cN)(hI:D.length=n)(aM:n<=1000)(Bx:pre.length=off)(g':∀x∈D,ok x)
 (av:∀a b,ok a->ok b->Fn (a2 Q g0) vi (.int .i64 a::.int .i64 b::tr.toList) [] cN (fun v m' ag=>v=.int .i64 (f a b)/\m'=[]/\ag=cN)):
 Fn (a2 Q g0) 92 [.slice (some ⟨ad,off,none⟩) n cap,.int .i64 0,.int .i64 (n:Int),.func (.func vi) #[] tr] ((ad,.row (kh pre D post) e)::en) J (fun v m' ag=>m'=(ad,.row (kh pre (pq f (n -1) D) post) e)::en/\J=ag):=by
 refine Fn.dw (dB Tryz.func92) rfl rfl fun H=>?_;refine rg ?_;refine U V.az ?_;refine U V.va ?_;refine U V.a7 ?_;refine ns ?_;refine ae.block ?_;refine' ae.fy (l':=[(8,.int .i64 (((0)+1:Nat):Int)),(0,_),(1,_),(2,_),(3,_)]) ⟨?Af,rfl,rfl,rfl,rfl,trivial⟩ (bV _) ?_;case Af=>exact ec
 refine aJ ?_;refine' ae.cf (fun(cU:Nat×(List Int))=>match cU with|(k,L)=>⟨[(8,.int .i64 ((k+1:Nat):Int))],(ad,.row (kh pre L post) e)::en,J,(k=0\/k+1<=n)/\L=pq f k D/\L.length=n/\(∀x∈L,ok x),n -(k+1)⟩) ⟨0,D⟩ ?al ?cp
 case al=>exact⟨.inl rfl,rfl,hI,g'⟩
 case cp=>
  rintro⟨k,L⟩ hinv;try simp only at hinv
  obtain⟨aH,bB,rf,ace⟩:=hinv;refine rg ?_;refine aV ?_;refine U V.bm ?_;refine ns ?_;refine If (fun ng=>?_) fun ng=>?_
  ·refine aJ ?_;refine ae.skip ?_;refine aJ ?_;refine ae.block ?_;refine rg ?_;refine aV ?_;refine ns ?_;refine ae.block ?_;refine' ae.fy (l':=[(9,.int .i64 ((k+1):Int)),(0,_),(1,_),(2,_),(3,_),(8,_)]) ⟨?F9,rfl,rfl,rfl,rfl,rfl,trivial⟩ (bV _) ?_;case F9=>exact ec
   refine aJ ?_;refine' ae.cf (fun(cU:Nat×(List Int))=>match cU with|(j,M)=>⟨[(9,.int .i64 (j:Int))],(ad,.row (kh pre M post) e)::en,J,j<=k+1/\om f j M=om f (k+1) L/\M.length=n/\(∀x∈M,ok x),j⟩) ⟨k+1,L⟩ ?al ?cp
   case al=>exact⟨dH _,rfl,rf,ace⟩
   case cp=>
    rintro⟨j,M⟩ hinv;try simp only at hinv
    obtain⟨aU,A8,LR,El⟩:=hinv;have anp:k+1<n:=by omega
    refine aJ ?_;refine ae.yP [(vi,(.int .i64 (M.getD j 0)::.int .i64 (M.getD (j -1) 0)::tr.toList),.int .i64 (f (M.getD j 0) (M.getD (j -1) 0)))] rfl (by kernel_rfl) (a8:=[.val 0,.val 1,.val 2,.val 3,.val 4,.val 5,.val 6,.val 7,.val 8,.val 9,.val 10,.val 11,.val 12,.val 13,.cv 14,.val 15,.val 16]) (by kernel_rfl) ?_;refine dJ rfl V.az ?_;refine dJ rfl V.az ?_;refine dJ rfl V.bm ?_;refine dJ rfl V.az ?_;refine te 21 (fun ot=>?_) fun ot=>?_
    ·obtain⟨x,I⟩:∃x,M[j]?=some x:=⟨_,du (by omega)⟩;obtain⟨y,ah⟩:∃y,M[j -1]?=some y:=⟨_,du (by omega)⟩;have ex:=getD_some I;have yY:=getD_some ah;rw[ex,yY];refine eG rfl V.az ?_;refine eG rfl V.az ?_;refine eG rfl V.az ?_;refine eG rfl V.bf ?_;refine' eb.Cw rfl rfl rfl rfl rfl rfl (ix rfl rfl ?ax (iR (hh rfl) ?ap)) ?_;case ax=>exact qr
     case ap=>exact Fz I (by omega)
     refine eG rfl V.az ?_;refine eG rfl V.az ?_;refine eG rfl V.va ?_;refine eG rfl V.bf ?_;refine' eb.Cw rfl rfl rfl rfl rfl rfl (ix rfl rfl ?ax (iR (hh rfl) ?ap)) ?_;case ax=>exact qr
     case ap=>exact Fz ah (by omega)
     refine' eb.Y4 rfl rfl rfl rfl rfl rfl rfl rfl rfl rfl rfl aiC ET.cons (av x y (El x (cV I)) (El y (cV ah))) ?_;refine eG rfl V.bm ?_;refine dJ rfl V.bc ?_;refine eb.nil ?_;refine aJ ?_;refine If (fun Dr=>?_) fun Dr=>?_
     ·have cP:f (M.getD j 0) (M.getD (j -1) 0)<0:=by rw[ex,yY];exact Dr
      refine gn ?_;refine aJ ?_;refine ae.block ?_;refine aJ ?_;refine ae.draw rfl (by kernel_rfl) (a8:=[.val 0,.val 1,.val 2,.val 3,.val 4,.val 5,.val 6,.val 7,.val 8,.val 9,.val 10,.val 11,.val 12,.val 13,.val 14,.cv 15,.val 16,.c9 [4,3,2],.cv 17]) (by kernel_rfl) ?_;refine cm ?_;refine aB rfl V.va ?_;refine cm ?_;refine aB rfl V.va ?_;refine aB rfl V.bf ?_;refine' a3.val rfl rfl rfl rfl (ix rfl rfl ?ax (iR (hh rfl) ?ap)) ?_;case ax=>exact qr
      case ap=>exact Fz ah (by omega)
      refine cm ?_;refine aB rfl V.bf ?_;refine' a3.val rfl rfl rfl rfl (ix rfl rfl ?ax (iR (hh rfl) ?ap)) ?_;case ax=>exact qr
      case ap=>exact Fz I (by omega)
      refine aB rfl V.bf ?_;refine' a3.ij rfl rfl (jY rfl rfl rfl rfl (h' rfl) rfl rfl rfl ?aa ?al ?au ?_);case au=>repeat first|exact .head _ _ _ _|apply dc.tail|apply dc.app
      case al=>exact Oz (L:=M) (v:=y) (j:=j) (by omega) (by omega)
      case aa=>first|rfl|assumption
      refine aB rfl V.bf ?_;refine a3.c9 g7 ?_;refine' a3.ij rfl rfl (jY rfl rfl rfl rfl (h' rfl) rfl rfl rfl ?aa ?al ?au ?_);case au=>repeat first|exact .head _ _ _ _|apply dc.tail|apply dc.app
      case al=>exact Oz (L:=M.set j y) (v:=x) (j:=j -1) (by rw[hW];omega) (by omega)
      case aa=>first|rfl|assumption
      refine a3.nil ?_;rw[show(M.set j y).set (j -1) x=qB M (j -1) from by unfold qB;rw[Nat.sub_add_cancel (show 1<=j by omega),ex,yY]];refine rg ?_;refine U V.az ?_;refine U V.va ?_;refine U V.a7 ?_;refine bu ?_;refine e2 ⟨j -1,qB M (j -1)⟩ ?_;exact⟨by omega,(YC (by omega) cP).trans A8,by rw[OI];exact LR,fun x I=>El x (Wr (by omega) x I)⟩
     ·have vv:M=pq f (k+1) D:=by show M=om f (k+1) (pq f k D);rw[<-bB,<-A8,QR (by rw[ex,yY];exact fun q=>Dr q.2)]
      refine aJ ?_;refine ae.exit ?_;refine rg ?_;refine U V.az ?_;refine U V.va ?_;refine U V.a7 ?_;refine bu ?_;refine e2 ⟨k+1,M⟩ ?_;exact⟨by omega,vv,LR,El⟩
    ·have vv:M=pq f (k+1) D:=by show M=om f (k+1) (pq f k D);rw[<-bB,<-A8,QR (by omega)]
     refine cW rfl ?_;refine cW rfl ?_;refine cW rfl ?_;refine cW rfl ?_;refine eb.JG rfl rfl rfl rfl rfl rfl ?_;refine cW rfl ?_;refine cW rfl ?_;refine cW rfl ?_;refine cW rfl ?_;refine eb.JG rfl rfl rfl rfl rfl rfl ?_;refine eb.Zc rfl rfl rfl rfl rfl rfl ?_;refine cW rfl ?_;refine dJ rfl V.bc ?_;refine eb.nil ?_;refine aJ ?_;refine ae.u4 rfl ?_;refine aJ ?_;refine ae.exit ?_;refine rg ?_;refine U V.az ?_;refine U V.va ?_;refine U V.a7 ?_;refine bu ?_;refine e2 ⟨k+1,M⟩ ?_;exact⟨by omega,vv,LR,El⟩
  ·obtain rfl:k=n -1:=by omega
   refine aJ ?_;refine ae.exit ?_;refine'⟨.inl rfl,rfl,_,_,.nil,bV _,⟨by rw[bB],rfl⟩⟩
end
end
end Go.Opn

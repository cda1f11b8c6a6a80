/- A part of the proof of TableLosses. -/
import Derived.Test.YtjbbbehaciogcaaGreatDoorCat
set_option maxRecDepth 100000
set_option maxHeartbeats 4000000
set_option linter.unusedVariables false
set_option linter.unusedSimpArgs false
namespace Go.Opn
noncomputable section
open Go.Cre Go.RowKit Go.Proofs
theorem sI{x y:Nat}:l4 x y<0↔x<y:=by unfold l4;split<;>(try split)<;>omega
theorem Xp{x y:Nat}:l4 x y=0↔x=y:=by unfold l4;split<;>(try split)<;>omega
theorem zF{x y:Nat}(h:x<y):l4 x y=-1:=by unfold l4;split<;>(try split)<;>omega
theorem zG{x y:Nat}(h:y<x):l4 x y=1:=by unfold l4;split<;>(try split)<;>omega
theorem G0{x y:Nat}(h:x=y):l4 x y=0:=by unfold l4;split<;>(try split)<;>omega
theorem drop_cons{l:List Nat}{i x:Nat}(h:l[i]?=some x):l.drop i=x::l.drop (i+1):=by
 have ak:=(ff.1 h).1;have aa:l[i]=x:=by rw[ey ak] at h;injection h
 rw[AZ ak,aa]
theorem kp{l:List Nat}{i x:Nat}(h:l[i]?=some x):l.getD i 0=x:=by rw[nP,h];rfl
theorem p0{l:List Nat}{i:Nat}(h:l.length<=i):l.getD i 0=0:=by rw[nP,jX h];rfl
theorem c9.at{k:IntKind}{J:aj}{b:Option Addr}{n c:Nat}{l:List Nat}(h:c9 k J (.slice b n c) l)(aw:0<l.length):∃a off cells e,b=some ⟨a,off,none⟩/\J a=some (cells,e)/\∀i:Nat,i<l.length->∃x,l[i]?=some x/\nth cells (off+i*1)=some (.int k (x:Int)):=by
 obtain⟨a,off,cells,e,ad,ae,aD⟩:=h.ei aw;exact⟨a,off,cells,e,ad,ae,fun i ak=>⟨l[i],ey ak,aD i _ (ey ak)⟩⟩
theorem Nb{x:Nat}(h:x≠0):0<(aO x).length:=by have:=Kh h;omega
theorem jN{x y:Nat}(h:x<=y):(aO x).length<=(aO y).length:=by
 apply sv
 intro q;have:=Oj q;omega
theorem Jj{x k:Nat}(h:x<18446744073709551616 ^ k):(aO x).length<=k:=ae4 h
theorem abN{x y k:Nat}(aa:(aO x).length<=k)(ap:(aO y).length<=k):(aO (x+y)).length<=k+1:=by
 have ad:=AN aa;have ae:=AN ap;refine Jj ?_;rw[fP];omega
theorem yF{x y k j:Nat}(aa:(aO x).length<=k)(ap:(aO y).length<=j):(aO (x*y)).length<=k+j:=by
 have ad:=AN aa;have ae:=AN ap;refine Jj ?_;rw[o1];exact O5 ad ae
theorem yG{x:Nat}(h:x<18446744073709551616):(aO x).length<=1:=Jj (by rw[DP];exact h)
theorem F8{x:Nat}(aR:x≠0)(h:x<18446744073709551616):aO x=[x]:=by
 rw[w2 aR,sw h,A6 h,sk]
theorem TQ{x:Nat}(h:(aO x).length=1):aO x=[x]/\x<18446744073709551616/\x≠0:=by
 have ad:x<18446744073709551616:=by have:=AN (x:=x) (k:=1) (DN h);rwa [DP] at this
 have aR:x≠0:=nL (by show(aO x).length≠0;omega);exact⟨F8 aR ad,ad,aR⟩
theorem cJ.at{J:aj}{b:Option Addr}{n c x:Nat}(h:cJ J (.slice b n c) x)(aw:x≠0):∃a off cells e,b=some ⟨a,off,none⟩/\J a=some (cells,e)/\∀i:Nat,i<(aO x).length->∃y,(aO x)[i]?=some y/\nth cells (off+i*1)=some (.int .u64 (y:Int))/\y<18446744073709551616:=by
 obtain⟨a,off,cells,e,ad,ae,aD⟩:=c9.at h (Nb aw);exact⟨a,off,cells,e,ad,ae,fun i ak=>by obtain⟨y,aW,aT⟩:=aD i ak;exact⟨y,aW,aT,yK (n9 x) aW⟩⟩
theorem c9.y9{k:IntKind}{J af:aj}{v:Value}{l l':List Nat}(h:c9 k J v l)(hd:c9 k af v l')(hle:J.le af):l=l':=by
 obtain⟨b,c,ax⟩:=h.form;obtain⟨b',c',aS⟩:=hd.form;rw[ax] at aS;injection aS with _ aS _
 subst ax;apply List.ext_getElem aS
 intro i i1 i2;obtain⟨a,off,cells,e,rfl,Tm,Tn⟩:=c9.at h I;obtain⟨b0,gw,cells',bD,w,aW,aT⟩:=c9.at hd I;injection w with w
 injection w with bl b7
 subst bl;subst b7;rw[hle _ _ Tm] at aW;injection aW with aW
 injection aW with bl b7
 subst bl;obtain⟨x,dW,fi⟩:=Tn i i1;obtain⟨y,hz,iX⟩:=aT i i2;rw[fi] at iX;injection iX with iX
 injection iX with _ iX
 rw[ey i1] at dW;rw[ey i2] at hz;injection dW with dW
 injection hz with hz
 omega
theorem cJ.y9{J af:aj}{v:Value}{x y:Nat}(h:cJ J v x)(hd:cJ af v y)(hle:J.le af):x=y:=by
 have:=cC a5 (c9.y9 h hd hle);rwa [kd,kd] at this
section
variable {K:dR}{B:dv}{o:Oper}{n:Nat}{ds:ee}{l:List (Nat×Value)}{m:aN}{J:aj}
theorem Df{t e:TypeId}{x:Operand}{ak:Operand}{dn off k cap sz:Nat}{gz:List Value}{b:Int}{s':IntKind}(ah:o.op=.slice t x none (some ak) none)(aa:bJ l x=some (.slice (some ⟨dn,off,none⟩) k cap))(aI:mN K.P t=some (e,sz,gz))(lO:bJ l ak=some (.int s' b))(aR:0<=b)(ad:b<=cap)(aC:cap<cO):cY K B o n ds l m J (.slice (some ⟨dn,off,none⟩) b.toNat cap):=by
 obtain⟨hu,eb,_⟩:=u0 aI;intro call aJ S H al aB;obtain⟨CQ,r',sb⟩:=xw (l5:=k) (top:=cap) (dl:=(k:Int)) (i:=b) (x:=some ak) al H (by unfold vE;simp only[lO]) aR ad rfl;unfold cz e4;simp only[ah];show nF K.P _ t (a3 S.T H x) (iy S.T H none) (iy S.T H (some ak))=_;rw[de al H aa,r',show iy S.T H none=some none from rfl];unfold nF;simp only
 have:lc K.P H t (.slice (some ⟨dn,off,none⟩) k cap) none CQ=some (.slice (some ⟨dn,off,none⟩) b.toNat cap):=by
  unfold lc;simp only[hu,eb];rw[show Nat.beq cap cO=false from by
   cases ai:Nat.beq cap cO with
   |false=>rfl
   |true=>have:=ez ai;omega,dK,sb]
  simp only[kU];cases ai:Nat.beq cap 0 with
  |false=>rw[dK];simp
  |true=>rw[cd];simp
 rw[this];rfl
end
abbrev eO(k:IntKind)(t a:Nat)(l:List Nat):Nat×dI:=(a,.row (cj k l) t)
abbrev kk(J:aj)(x:Nat):Value->aN->aj->Prop:=fun u m' af=>J.le af/\m'=[]/\cJ af u x
theorem mu{c:Nat}(h:c<1000000):c<cO:=A8 h bI
theorem kk.hs{J mn:aj}{x h8:Nat}(hle:mn.le J)(eN:h8=x){bm:aN}(hm:bm=[]):bm=[]/\mn.le J/\∀v m' bu cZ,kk mn h8 v m' bu->bu.le cZ->J.le cZ->kk J x v m' cZ:=
 ⟨hm,hle,fun v m' bu cZ ⟨_,ae,aD⟩ a6 eM=>⟨eM,ae,eN▸aD.mono a6⟩⟩
section
variable {Q:c7 Tryz.prog}{g0:Nat}{J:aj}
theorem Fh{v:Value}{x:Nat}(h:cJ J v x)(ai:(aO x).length<=100000):Fn (aU Q g0) 112 [v] [] J (fun u m' af=>u=.bool (decide (x=1))/\m'=[]/\J=af):=by
 obtain⟨b,c,rfl,k6⟩:=h.bA;refine Fn.b5 (b2 Tryz.func112) rfl rfl fun H=>?_;refine U 0x90a1ce059 ?_;refine c0 6 (fun g2=>?_) fun g2=>?_
 ·obtain⟨ax,aS,cl⟩:=TQ (x:=x) (by show(aO x).length=1;omega);obtain⟨a,off,cells,e,rfl,fY,av⟩:=h.at cl;obtain⟨y,ap,av,_⟩:=av 0 (by show 0<(aO x).length;omega);rw[ax] at ap;obtain rfl:x=y:=DQ ap;refine U 0x1abe048224c1 ?_;refine gZ ?_
  exact⟨cC Value.bool (by((by_cases q:x=1<;>simp[q]<;>omega))),rfl,rfl⟩
 ·refine U 0x1abe048def7b ?_;refine gZ ?_
  have c:=g2
  exact⟨cC Value.bool (by(have q:x≠1:=fun q=>c (by rw[q,F8 bI bI];rfl);simp[q])),rfl,rfl⟩
theorem G4{v w:Value}{x y:Nat}(ad:cJ J v x)(ae:cJ J w y)(aa:(aO x).length<=100000)(ap:(aO y).length<=100000):Fn (aU Q g0) 92 [v,w] [] J (fun u m' af=>u=.int .i64 (l4 x y)/\m'=[]/\J=af):=by
 obtain⟨a',bb,rfl,aL⟩:=ad.bA;obtain⟨bf,br,rfl,aG⟩:=ae.bA;refine Fn.b5 (b2 Tryz.func92) rfl rfl fun H=>?_;refine U 0x5f04284a1ce059 ?_;refine If (fun dp=>?_) fun dp=>?_
 ·refine U 0xbe08509439 ?_;refine If (fun fV=>?_) fun fV=>?_
  ·refine U 0x1abe059 ?_;refine gZ ?_
   exact⟨by rw[zF (Oj I)];rfl,rfl,rfl⟩
  ·refine U 0x6af816757 ?_;refine gZ ?_
   exact⟨by rw[zG (Oj I)];rfl,rfl,rfl⟩
 ·refine U 0x357c08650e757 ?_;refine c3 [(5,.int .i64 ((((aO x).length):Int) -1)),(0,_),(1,_)] ?_;refine a2 ?_;refine' az.kv (fun(k:Nat)=>⟨[(5,.int .i64 ((k:Int) -1))],k<=(aO x).length/\(aO x).drop k=(aO y).drop k,k⟩) ((aO x).length) ?hs ?a7;case hs=>exact⟨bU _,by rw[rB I,rB I]⟩
  case a7=>
   rintro k hinv;try simp only at hinv
   obtain⟨hk,au⟩:=hinv;refine U 0x17c1039 ?_;refine If (fun hC=>?_) fun hC=>?_
   ·obtain⟨a,o,bC,e,rfl,fY,av⟩:=ad.at (nL I);obtain⟨b0,o',zD,bD,rfl,BN,wm⟩:=ae.at (nL I);obtain⟨p,aw,jI,_⟩:=av (k -1) (by show k -1<(aO x).length;omega);obtain⟨q,bQ,sZ,_⟩:=wm (k -1) (by show k -1<(aO y).length;omega);have jI:nth bC (o+((k:Int) -1).toNat*1)=some (.int .u64 (p:Int)):=by rw[show((k:Int) -1).toNat=k -1 by omega];exact jI
    have sZ:nth zD (o'+((k:Int) -1).toNat*1)=some (.int .u64 (q:Int)):=by rw[show((k:Int) -1).toNat=k -1 by omega];exact sZ
    refine U 0x17d5f57 ?_;refine az.draw rfl (by kernel_rfl) (a1:=[.val 0,.val 1,.val 2,.val 3,.val 4,.val 5,.val 6,.val 7,.val 8]) (by kernel_rfl) ?_;refine U 0x5f044982149821 ?_;refine If (fun o6=>?_) fun o6=>?_
    ·refine U 0x1abe059 ?_;refine gZ ?_
     exact⟨by rw[zF (ae5 aw bQ (by rw[show k -1+1=k by omega];exact au) I)];rfl,rfl,rfl⟩
    ·refine U 0x5f57 ?_;refine az.draw rfl (by kernel_rfl) (a1:=[.val 0,.val 1,.val 2,.val 3,.val 4,.val 5,.val 6,.val 7,.val 8]) (by kernel_rfl) ?_;refine U 0x5f044982149821 ?_;refine If (fun vI=>?_) fun vI=>?_
     ·refine U 0x1abe059 ?_;refine gZ ?_
      exact⟨by rw[zG (ae5 bQ aw (by rw[show k -1+1=k by omega];exact au.symm) I)];rfl,rfl,rfl⟩
     ·refine U 0x60430e757 ?_;refine kx (k -1) ?_;exact⟨I,by rw[drop_cons (i:=k -1) aw,drop_cons (i:=k -1) bQ,show k -1+1=k by omega,au];congr 1;omega⟩
   ·refine U 0x6af816757 ?_;refine gZ ?_
    exact⟨by
     obtain rfl:k=0:=I
     rw[G0 (show x=y by rw[<-kd x,<-kd y];exact cC a5 au)];rfl,rfl,rfl⟩
theorem y8{a n cap:Nat}{l:List Nat}(ah:okW l)(aE:n<=l.length)(aC:n<=cap)(gm:cap<1000000):
 Fn (aU Q g0) 117 [.slice (some ⟨a,0,none⟩) n cap] [eO .u64 129 a l] J (fun u m' af=>∃k,u=.slice (some ⟨a,0,none⟩) k cap/\k<=n/\l.take k=aO (a5 (l.take n))/\m'=[eO .u64 129 a l]/\J=af):=by
 have an8:cap<cO:=mu gm;have rY:(l.take n).length=n:=by rw[eA];omega
 have fin:∀k:Nat,k<=n->(∀j y,k<=j->(l.take n)[j]?=some y->y=0)->(∀y,0<k->(l.take n)[k -1]?=some y->y≠0)->l.take k=aO (a5 (l.take n)):=fun k hk ad ae=>by
  rw[<-aeq (th ah) (by rw[rY];exact hk) ad ae,su,g6 hk]
 refine Fn.b5 (b2 Tryz.func117) rfl rfl fun H=>?_;refine U 0x357c08a1ce059 ?_;refine c3 [(3,.int .i64 ((n):Int)),(0,_)] ?_;refine a2 ?_;refine' az.kv (fun(k:Nat)=>⟨[(3,.int .i64 (k:Int))],k<=n/\∀j y,k<=j->(l.take n)[j]?=some y->y=0,k⟩) (n) ?hs ?a7;case hs=>exact⟨bU _,fun j y ad ae=>by have:=(ff.1 ae).1;omega⟩
 case a7=>
  rintro k hinv;try simp only at hinv
  obtain⟨hk,aM⟩:=hinv;refine U 0x9039 ?_;refine c0 8 (fun Rc=>?_) fun Rc=>?_
  ·obtain⟨x,aa⟩:∃x,l[k -1]?=some x:=⟨_,ey I⟩;have e7:(l.take n)[k -1]?=some x:=by rw[jY,aV I];exact aa
   have aE:nth (cj .u64 l) (0+((k:Int) -1).toNat*1)=some (.int .u64 (x:Int)):=r9 aa I;refine U 0x17c208a30c21 ?_;refine If (fun fV=>?_) fun fV=>?_
   ·refine U 0x1810c39d5f57 ?_;refine kx (k -1) ?_;exact⟨I,fun j y ad ae=>by
     by_cases q:k<=j
     ·exact aM j y q ae
     ·obtain rfl:j=k -1:=I
      rw[e7] at ae;injection ae with ae;omega⟩
   ·refine U 0x10e757 ?_;refine' W.step rfl (Exec.val rfl rfl (Df rfl rfl (eW rfl) rfl ?aR ?ad ?ae) ?_);case aR=>exact ck
    case ad=>exact ck
    case ae=>assumption
    refine U 0xd5f02 ?_;refine ja ?_
    exact⟨k,by rw[gG];rfl,hk,fin k hk aM (fun y ad ae=>by rw[e7] at ae;injection ae with ae;omega),rfl,rfl⟩
  ·refine U 0x439d5f57c237bdef7b ?_;refine' W.step rfl (Exec.val rfl rfl (Df rfl rfl (eW rfl) rfl ?aR ?ad ?ae) ?_);case aR=>exact ck
   case ad=>exact ck
   case ae=>assumption
   refine U 0xd5f02 ?_;refine ja ?_
   exact⟨k,by rw[gG];rfl,hk,fin k hk aM (fun y ad ae=>by omega),rfl,rfl⟩
end
theorem Od{z:List Nat}{i y:Nat}(h:i<z.length):a5 ((z.set i y).take (i+1))=a5 (z.take i)+18446744073709551616 ^ i*y:=by
 rw[lz (x:=y) (by rw[mS,aV rfl,aV h]),KO (bU i)]
theorem Lq(i s:Nat):18446744073709551616 ^ i*s=18446744073709551616 ^ i*(s % 18446744073709551616)+18446744073709551616 ^ (i+1)*(s / 18446744073709551616):=by
 conv=>lhs;rw[<-zn s 18446744073709551616]
 rw[cL,fP,fy]
theorem asR{x y:List Nat}{z:List Nat}{i c a b:Nat}(ak:i<z.length)(aF:x.getD i 0=a)(ai:y.getD i 0=b)(h:a5 (z.take i)+18446744073709551616 ^ i*c=a5 (x.take i)+a5 (y.take i)):
 a5 ((z.set i ((a+b+c) % 18446744073709551616)).take (i+1))+18446744073709551616 ^ (i+1)*((a+b+c) / 18446744073709551616)=a5 (x.take (i+1))+a5 (y.take (i+1)):=by
 rw[Od ak,AL x,AL y,aF,ai];have e:=Lq i (a+b+c);rw[cL,cL] at e;omega
theorem aqX{x y:List Nat}{z:List Nat}{i c a b:Nat}(ak:i<z.length)(jk:a<18446744073709551616)(kr:b<18446744073709551616)(aC:c<=1)(aF:x.getD i 0=a)(ai:y.getD i 0=b)(h:a5 (z.take i)+a5 (y.take i)=a5 (x.take i)+18446744073709551616 ^ i*c):
 a5 ((z.set i ((a+18446744073709551616 -b -c) % 18446744073709551616)).take (i+1))+a5 (y.take (i+1))=a5 (x.take (i+1))+18446744073709551616 ^ (i+1)*(if a<b+c then 1 else 0):=by
 rw[Od ak,AL x,AL y,aF,ai];have e:(a+18446744073709551616 -b -c) % 18446744073709551616+b+c=a+18446744073709551616*(if a<b+c then 1 else 0):=by
  split<;>omega
 have aS:=cC (18446744073709551616 ^ i*·) e;simp only[cL] at aS;have cl:∀t:Nat,18446744073709551616 ^ i*(18446744073709551616*t)=18446744073709551616 ^ (i+1)*t:=fun t=>by rw[fP,fy]
 rw[cl] at aS;omega
section
variable {Q:c7 Tryz.prog}{g0:Nat}{J:aj}
theorem asQ{v w:Value}{x y:Nat}(aa:cJ J v x)(ap:cJ J w y)(g4:(aO x).length<=100000)(jL:(aO y).length<=100000):Fn (aU Q g0) 113 [v,w] [] J (kk J (x+y)):=by
 have dC:=aa;have e8:=ap;obtain⟨a',bb,rfl,aL⟩:=aa.bA;obtain⟨bf,br,rfl,aG⟩:=ap.bA;refine Fn.b5 (b2 Tryz.func113) rfl rfl fun H=>?_;refine U 0x304284a1ce059 ?_;refine c4 [0,1,14] ?_;refine a2 ?_;refine' az.lb 3 (fun(bK:(Value)×(Value)×(Nat)×(Nat))=>match bK with|(iz,kP,p,q)=>⟨[(0,iz),(1,kP)],[],J,cJ J iz p/\cJ J kP q/\(aO q).length<=(aO p).length/\(aO p).length<=100000/\p+q=x+y⟩) ?Qb ?Qt
 case Qb=>
  refine If (fun fc=>?_) fun fc=>?_
  ·refine U 0x30210439 ?_;refine fG ⟨.slice bf (aO y).length br,.slice a' (aO x).length bb,y,x⟩ ?_;exact⟨e8,dC,I,jL,I⟩
  ·refine hx ?_;refine fG ⟨.slice a' (aO x).length bb,.slice bf (aO y).length br,x,y⟩ ?_;exact⟨dC,e8,I,g4,rfl⟩
 case Qt=>
  rintro⟨iz,kP,p,q⟩ hinv;try simp only at hinv
  obtain⟨eS,ea,hle,bH,al⟩:=hinv;have hU:=eS;have h5:=ea;obtain⟨fs,gl,rfl,fU⟩:=eS.bA;obtain⟨fb,eo,rfl,ih⟩:=ea.bA;refine U 0x19439 ?_;refine' W.step rfl (.of (nf rfl rfl rfl rfl rfl (eW rfl) ?aR ?ad ?ae fun GA=>?_));case aR=>exact ck
  case ad=>exact ck
  case ae=>exact ck
  refine U 0x302 ?_;rw[show(((aO p).length:Int)+1).toNat=(aO p).length+1 by omega,zero_num];refine U 0x357c04a1ce059 ?_;refine c3 [(23,.int .i64 ((0):Int)),(6,.int .u64 ((0):Int)),(0,_),(1,_),(5,_),(21,_),(22,_)] ?_;refine a2 ?_;refine' az.bH (fun(bK:Nat×Nat×(List Nat))=>match bK with|(i,c,z)=>⟨[(23,.int .i64 (i:Int)),(6,.int .u64 (c:Int))],[eO .u64 129 GA z],J,i<=(aO p).length/\c<=1/\z.length=(aO p).length+1/\okW z/\a5 (z.take i)+18446744073709551616 ^ i*c=a5 ((aO p).take i)+a5 ((aO q).take i),(aO p).length -i⟩) ⟨0,0,List.replicate ((aO p).length+1) 0⟩ ?hs ?a7
  case hs=>exact⟨c5 _,by decide,kE,Aq,by rw[fO,fO,fO];rfl⟩
  case a7=>
   rintro⟨i,c,z⟩ hinv;try simp only at hinv
   obtain⟨ak,aC,aM,bn,av⟩:=hinv;refine U 0xbe099 ?_;refine If (fun sG=>?_) fun sG=>?_
   ·obtain⟨K4,JA,air,aj0,rfl,fY,eU⟩:=hU.at (nL I);obtain⟨a,aF,qb,jk⟩:=eU i I;have r1:=HD (n9 q) i;refine U 0xc10a10e702ce04249839d5f57 ?_;refine c4 [9,31,0,1,5,6,7,8,21,22,23] ?_;refine a2 ?_;refine' az.en 2 [(9,.int .u64 (((aO q).getD i 0:Nat):Int))] ?Qc ?Qu;case Qc=>
     refine If (fun o6=>?_) fun o6=>?_
     ·obtain⟨ab,jO,ain,ajY,rfl,amw,BZ⟩:=h5.at (nL I);obtain⟨b,ai,z8,_⟩:=BZ i I;refine U 0x604930439 ?_;refine'⟨⟨_,rfl,⟨?qo,rfl,rfl,rfl,rfl,rfl,rfl,rfl,rfl,rfl,trivial⟩⟩,iZ _,rfl⟩;case qo=>exact cC some (cC (Value.int .u64) (by rw[kp ai]))
     ·refine hx ?_;refine'⟨⟨_,rfl,⟨?qo,rfl,rfl,rfl,rfl,rfl,rfl,rfl,rfl,rfl,trivial⟩⟩,iZ _,rfl⟩;case qo=>(exact cC some (cC (Value.int .u64) (by rw[p0 (l:=aO q) I];rfl)))
    case Qu=>
     refine U 0x2108439 ?_;refine bC (G:=xm aC) (h:=?_);rintro v' m' af hle ⟨rfl,rfl,rfl⟩;refine U 0x31ce1 ?_;refine' iN ?hs ?_;case hs=>exact mf i I
     refine U 0x3011e702 ?_;refine dN ⟨i+1,(a+(aO q).getD i 0+c) / 18446744073709551616,z.set i ((a+(aO q).getD i 0+c) % 18446744073709551616)⟩ ?_;exact⟨I,I,by rw[im];exact aM,sc bn (gA _ bI),asR I (kp aF) rfl av⟩
   ·obtain rfl:i=(aO p).length:=I
    refine U 0x304a10e757 ?_;refine' iN ?hs ?_;case hs=>exact mf (aO p).length I
    refine U 0x738 ?_;refine' W.step rfl (Exec.call rfl rfl rfl rfl rfl rfl rfl (bm:=[eO .u64 129 GA (z.set (aO p).length c)]) (cN:=[]) (.refl _) trivial (y8 (l:=z.set (aO p).length c) (sc bn I) (by rw[im,aM];exact bU _) (bU _) I) ?_);rintro v' m' af hle ⟨k,rfl,hk,hg,rfl,rfl⟩;refine U 0x302 ?_;refine az.ie rfl fun aY=>?_;refine U 0x357 ?_;refine bp ?_;exact⟨aY,rfl,cJ.row (by
      rw[hg,Od I,av,cU (bU _),cU I,kd,kd,al]) (by rw[im,aM];exact hk) hk (mu I) (aj.iE _ _ _)⟩
theorem abx{v w:Value}{x y:Nat}(aa:cJ J v x)(ap:cJ J w y)(g4:(aO x).length<=100000)(jL:(aO y).length<=100000)(h:y<=x):Fn (aU Q g0) 114 [v,w] [] J (kk J (x -y)):=by
 have dC:=aa;have e8:=ap;obtain⟨a',bb,rfl,aL⟩:=aa.bA;obtain⟨bf,br,rfl,aG⟩:=ap.bA;have l9:(aO y).length<=(aO x).length:=jN h;refine Fn.b5 (b2 Tryz.func114) rfl rfl fun H=>?_;refine U 0xa1ce059 ?_;refine' W.step rfl (.of (nf rfl rfl rfl rfl rfl (eW rfl) ?aR ?ad ?ae fun zv=>?_));case aR=>exact ck
 case ad=>exact ck
 case ae=>exact ck
 refine U 0x302 ?_;rw[show((aO x).length:Int).toNat=(aO x).length by omega,zero_num];refine U 0x357c04a1ce059 ?_;refine c3 [(15,.int .i64 ((0):Int)),(6,.int .u64 ((0):Int)),(1,_),(5,_),(13,_),(14,_)] ?_;refine a2 ?_;refine' az.bH (fun(bK:Nat×Nat×(List Nat))=>match bK with|(i,c,z)=>⟨[(15,.int .i64 (i:Int)),(6,.int .u64 (c:Int))],[eO .u64 129 zv z],J,i<=(aO x).length/\c<=1/\z.length=(aO x).length/\okW z/\a5 (z.take i)+a5 ((aO y).take i)=a5 ((aO x).take i)+18446744073709551616 ^ i*c,(aO x).length -i⟩) ⟨0,0,List.replicate (aO x).length 0⟩ ?hs ?a7
 case hs=>exact⟨c5 _,by decide,kE,Aq,by rw[fO,fO,fO];rfl⟩
 case a7=>
  rintro⟨i,c,z⟩ hinv;try simp only at hinv
  obtain⟨ak,aC,aM,bn,av⟩:=hinv;refine U 0xbe099 ?_;refine If (fun kV=>?_) fun kV=>?_
  ·obtain⟨K4,JA,air,aj0,rfl,fY,eU⟩:=dC.at (nL I);obtain⟨a,aF,qb,jk⟩:=eU i I;have r1:=HD (n9 y) i;refine U 0xc10a10e702ce04249839d5f57 ?_;refine c4 [9,23,1,5,6,7,8,13,14,15] ?_;refine a2 ?_;refine' az.en 2 [(9,.int .u64 (((aO y).getD i 0:Nat):Int))] ?ah7 ?ajp;case ah7=>
    refine If (fun ms=>?_) fun ms=>?_
    ·obtain⟨ab,jO,ain,ajY,rfl,amw,BZ⟩:=e8.at (nL I);obtain⟨b,ai,z8,_⟩:=BZ i I;refine U 0x604930439 ?_;refine'⟨⟨_,rfl,⟨?qo,rfl,rfl,rfl,rfl,rfl,rfl,rfl,rfl,trivial⟩⟩,iZ _,rfl⟩;case qo=>exact cC some (cC (Value.int .u64) (by rw[kp ai]))
    ·refine hx ?_;refine'⟨⟨_,rfl,⟨?qo,rfl,rfl,rfl,rfl,rfl,rfl,rfl,rfl,trivial⟩⟩,iZ _,rfl⟩;case qo=>(exact cC some (cC (Value.int .u64) (by rw[p0 (l:=aO y) I];rfl)))
   case ajp=>
    refine U 0x2108439 ?_;refine bC (G:=N3 aC) (h:=?_);rintro v' m' af hle ⟨rfl,rfl,rfl⟩;refine U 0x31ce1 ?_;refine' iN ?hs ?_;case hs=>exact mf i I
    refine U 0x3011e702 ?_;refine dN ⟨i+1,(if a<(aO y).getD i 0+c then 1 else 0),z.set i ((a+18446744073709551616 -(aO y).getD i 0 -c) % 18446744073709551616)⟩ ?_;exact⟨I,by split<;>omega,by rw[im];exact aM,sc bn (gA _ bI),aqX I jk r1 aC (kp aF) rfl av⟩
  ·obtain rfl:i=(aO x).length:=I
   have m3:c=0:=by
    have ad:=sj (th (i:=(aO x).length) bn);rw[eA,aM,Nat.min_self] at ad;rw[cU (l:=aO x) (bU _),cU (l:=aO y) I,kd,kd] at av;obtain rfl|rfl:c=0\/c=1:=I
    ·rfl
    ·rw[ha] at av;omega
   refine U 0xe757 ?_;refine' W.step rfl (Exec.call rfl rfl rfl rfl rfl rfl rfl (bm:=[eO .u64 129 zv z]) (cN:=[]) (.refl _) trivial (y8 (l:=z) bn I (bU _) I) ?_);rintro v' m' af hle ⟨k,rfl,hk,hg,rfl,rfl⟩;refine U 0x302 ?_;refine az.ie rfl fun aY=>?_;refine U 0x357 ?_;refine bp ?_;exact⟨aY,rfl,cJ.row (by
    rw[cU (l:=aO x) (bU _),cU (l:=aO y) I,kd,kd,m3,js] at av;rw[hg];congr 1;omega) I hk (mu I) (aj.iE _ _ _)⟩
end
theorem Jh{a b:Nat}(aF:a<18446744073709551616)(ai:b<18446744073709551616):a*b<=340282366920938463426481119284349108225:=sx (show a<=18446744073709551615 by omega) (show b<=18446744073709551615 by omega)
theorem AA{z:List Nat}{p t y:Nat}(h:t≠p):(z.set p y).getD t 0=z.getD t 0:=by
 rw[nP,nP,mS,aQ (fun q=>h q.symm)]
theorem LO{z:List Nat}{t:Nat}(h:t<z.length):z[t]?=some (z.getD t 0):=by
 rw[nP,ey h];rfl
theorem avG{y z:List Nat}{i j t c a b s A:Nat}(aM:z[i+j]?=some t)(h:a5 z+18446744073709551616 ^ (i+j)*c=A+a*18446744073709551616 ^ i*a5 (y.take j))(ai:y[j]?=some b)(hs:s=a*b+t+c):
 a5 (z.set (i+j) (s % 18446744073709551616))+18446744073709551616 ^ (i+(j+1))*(s / 18446744073709551616)=A+a*18446744073709551616 ^ i*a5 (y.take (j+1)):=by
 have ax:=Di (y:=s % 18446744073709551616) aM;have aS:=Lq (i+j) s;rw[lz ai,cL];have cl:a*18446744073709551616 ^ i*(18446744073709551616 ^ j*b)=18446744073709551616 ^ (i+j)*(a*b):=by rw[o1];ac_rfl
 rw[cl];have dS:18446744073709551616 ^ (i+j)*s=18446744073709551616 ^ (i+j)*(a*b)+18446744073709551616 ^ (i+j)*t+18446744073709551616 ^ (i+j)*c:=by rw[hs,cL,cL]
 rw[show i+(j+1)=i+j+1 from rfl];omega
theorem avF{x z:List Nat}{i n c a Y:Nat}(ak:i+n<z.length)(aM:z.getD (i+n) 0=0)(aF:x[i]?=some a)(h:a5 z+18446744073709551616 ^ (i+n)*c=a5 (x.take i)*Y+a*18446744073709551616 ^ i*Y):
 a5 (z.set (i+n) c)=a5 (x.take (i+1))*Y:=by
 have ax:=Di (y:=c) (LO ak);rw[aM,js,iD,h] at ax;rw[ax,lz aF,c6,dP a]
section
variable {Q:c7 Tryz.prog}{g0:Nat}{J:aj}
theorem Da{v w:Value}{x y:Nat}(aa:cJ J v x)(ap:cJ J w y)(g4:(aO x).length<=100000)(jL:(aO y).length<=100000):Fn (aU Q g0) 88 [v,w] [] J (kk J (x*y)):=by
 have dC:=aa;have e8:=ap;obtain⟨a',bb,rfl,aL⟩:=aa.bA;obtain⟨bf,br,rfl,aG⟩:=ap.bA;refine Fn.b5 (b2 Tryz.func88) rfl rfl fun H=>?_;refine U 0x6059 ?_;refine c4 [0,1] ?_;refine a2 ?_;refine' az.en 0 [(21,.bool (decide (((aO x).length=0\/(aO y).length=0))))] ?jh ?ji;case jh=>
  refine U 0x12143a ?_;refine c0 17 (fun g2=>?_) fun g2=>?_
  ·refine U 0x1846f7b ?_;refine di (dk ?_);omega
  ·refine U 0x18410a1 ?_;refine di (dk ?_);omega
 case ji=>
  refine a2 ?_;refine If (fun o5=>?_) fun o5=>?_
  ·have aM:x*y=0:=by
    rcases o5 with k|k
    ·rw[show x=0 from jD fun q=>Kh q k,jE]
    ·rw[show y=0 from jD fun q=>Kh q k,js]
   refine U 0x1abe059 ?_;refine bp ?_
   exact⟨aj.le.refl _,rfl,by rw[aM];exact cJ.nil⟩
  ·refine U 0xe757 ?_;refine bC (G:=Fh dC g4) (h:=?_);rintro v' m' af hle ⟨rfl,rfl,rfl⟩;refine ns ?_;refine If (fun ms=>?_) fun ms=>?_
   ·refine U 0x357c0839 ?_;refine bp ?_
    have c:=ms
    exact⟨aj.le.refl _,rfl,by rw[c,jb];exact e8⟩
   ·refine U 0xe757 ?_;refine bC (G:=Fh e8 jL) (h:=?_);rintro v' m' af hle ⟨rfl,rfl,rfl⟩;refine ns ?_;refine If (fun nV=>?_) fun nV=>?_
    ·refine U 0x357c0839 ?_;refine bp ?_
     have c:=nV
     exact⟨aj.le.refl _,rfl,by rw[c,ha];exact dC⟩
    ·refine U 0x194250e757 ?_;refine' W.step rfl (.of (nf rfl rfl rfl rfl rfl (eW rfl) ?aR ?ad ?ae fun Pn=>?_));case aR=>exact ck
     case ad=>exact ck
     case ae=>exact ck
     refine U 0x302 ?_;rw[show(((aO x).length:Int)+((aO y).length:Int)).toNat=(aO x).length+(aO y).length by omega,zero_num];obtain⟨sD,eF,oz,ex,rfl,lj,lp⟩:=dC.at (nL I);obtain⟨DY,hX,tS,qU,rfl,ED,oL⟩:=e8.at (nL I);refine U 0x6af809439 ?_;refine c3 [(36,.int .i64 ((0):Int)),(1,_),(5,_),(34,_),(35,_)] ?_;refine a2 ?_;refine' az.bH (fun(bK:Nat×(List Nat))=>match bK with|(i,z)=>⟨[(36,.int .i64 (i:Int))],[eO .u64 129 Pn z],J,i<=(aO x).length/\z.length=(aO x).length+(aO y).length/\okW z/\a5 z=a5 ((aO x).take i)*y/\(∀t,i+(aO y).length<=t->z.getD t 0=0),(aO x).length -i⟩) ⟨0,List.replicate ((aO x).length+(aO y).length) 0⟩ ?hs ?a7
     case hs=>exact⟨c5 _,kE,Aq,by rw[Oe,fO];show 0=0*y;rw[jE],fun t _=>by rw[nP,vm];split<;>rfl⟩
     case a7=>
      rintro⟨i,z⟩ hinv;try simp only at hinv
      obtain⟨ak,aM,bn,av,ht⟩:=hinv;refine U 0xbe099 ?_;refine If (fun vH=>?_) fun vH=>?_
      ·
        obtain⟨a,aF,qb,jk⟩:=lp i I;refine U 0x1abe0250e702ce04249839d5f57 ?_;refine c3 [(43,.int .i64 ((0):Int)),(8,.int .u64 ((0):Int)),(1,_),(5,_),(6,_),(7,_),(34,_),(35,_),(36,_),(41,_),(42,_)] ?_;refine a2 ?_;refine' az.bH (fun(bK:Nat×Nat×(List Nat))=>match bK with|(j,c,fj)=>⟨[(43,.int .i64 (j:Int)),(8,.int .u64 (c:Int))],[eO .u64 129 Pn fj],J,j<=(aO y).length/\c<18446744073709551616/\fj.length=(aO x).length+(aO y).length/\okW fj/\a5 fj+18446744073709551616 ^ (i+j)*c=a5 ((aO x).take i)*y+a*18446744073709551616 ^ i*a5 ((aO y).take j)/\(∀t,i+(aO y).length<=t->fj.getD t 0=0),(aO y).length -j⟩) ⟨0,0,z⟩ ?hs ?a7
        case hs=>exact⟨c5 _,by decide,aM,bn,by rw[js,av,fO];rfl,ht⟩
        case a7=>
         rintro⟨j,c,fj⟩ hinv;try simp only at hinv
         obtain⟨aX,gm,hg,Cf,yi,Tc⟩:=hinv;refine U 0xbe099 ?_;refine If (fun rK=>?_) fun rK=>?_
         ·obtain⟨b,ai,z8,kr⟩:=oL j I;obtain⟨P,cI⟩:∃P,P=a*b:=⟨_,rfl⟩;have sT:=Jh jk kr;rw[<-cI] at sT;obtain⟨t,aI⟩:∃t,fj[i+j]?=some t:=⟨_,ey I⟩;have mA:=yK Cf aI;have ht:nth (cj .u64 fj) (0+((i:Int)+(j:Int)).toNat*1)=some (.int .u64 (t:Int)):=r9 aI I;obtain⟨s,hs⟩:∃s,s=P+t+c:=⟨_,rfl⟩;refine U 0x21ce04249839d5f57 ?_;refine bC (G:=Fx jk kr) (h:=?_);rintro v' m' af hle ⟨rfl,rfl,rfl⟩;rw[<-cI];refine U 0x930c21087381670211ce1 ?_;refine bC (G:=xm (c:=0) I) (h:=?_);rintro v' m' af hle ⟨rfl,rfl,rfl⟩;refine U 0x439c08610e70211ce1 ?_;refine bC (G:=xm (c:=0) I) (h:=?_);rintro v' m' af hle ⟨rfl,rfl,rfl⟩;refine U 0xc2108c210e70211ce1 ?_;rw[show((P % 18446744073709551616+t+0) % 18446744073709551616+c+0) % 18446744073709551616=s % 18446744073709551616 by omega];rw[show((P / 18446744073709551616:Nat):Int)+(((P % 18446744073709551616+t+0) / 18446744073709551616:Nat):Int)+((((P % 18446744073709551616+t+0) % 18446744073709551616+c+0) / 18446744073709551616:Nat):Int)=((s / 18446744073709551616:Nat):Int) by omega];refine eZ V.dz ?_;refine' iN ?hs ?_;case hs=>exact mf (i+j) I
          refine U 0x3011e702 ?_;refine dN ⟨j+1,s / 18446744073709551616,fj.set (i+j) (s % 18446744073709551616)⟩ ?_;exact⟨I,I,by rw[im];exact hg,sc Cf (gA _ bI),avG aI yi ai (by rw[hs,cI]),fun t aI=>by rw[AA I];exact Tc t I⟩
         ·obtain rfl:j=(aO y).length:=I
          have aoU:=yi;refine U 0xc1194210e757 ?_;refine' iN ?hs ?_;case hs=>exact mf (i+(aO y).length) I
          refine U 0x1808f38 ?_;refine dN ⟨i+1,fj.set (i+(aO y).length) c⟩ ?_;exact⟨I,by rw[im];exact hg,sc Cf gm,avF I (Tc _ (bU _)) aF (by rw[aoU,cU (l:=aO y) (bU _),kd]),fun t aI=>by rw[AA I];exact Tc t I⟩
      ·
        obtain rfl:i=(aO x).length:=I
        refine U 0xe757 ?_;refine' W.step rfl (Exec.call rfl rfl rfl rfl rfl rfl rfl (bm:=[eO .u64 129 Pn z]) (cN:=[]) (.refl _) trivial (y8 (l:=z) bn I (bU _) I) ?_);rintro v' m' af hle ⟨k,rfl,hk,hg,rfl,rfl⟩;refine U 0x302 ?_;refine az.ie rfl fun aY=>?_;refine U 0x357 ?_;refine bp ?_
        exact⟨aY,rfl,cJ.row (by
         rw[hg,<-aM,cU (bU _),av,cU (bU _),kd]) I hk (mu I) (aj.iE _ _ _)⟩
end
theorem aji{x z:List Nat}{i r a d:Nat}(ak:i<z.length)(aF:x[i]?=some a)(h:a5 (x.drop (i+1))=d*a5 (z.drop (i+1))+r):
 a5 (x.drop i)=d*a5 ((z.set i ((r*18446744073709551616+a) / d)).drop i)+(r*18446744073709551616+a) % d:=by
 rw[F6 aF,F6 (l:=z.set i _) (i:=i) (x:=(r*18446744073709551616+a) / d) (by rw[mS,aV rfl,aV ak]),DE I,h];have e:=mT (r*18446744073709551616+a) d;rw[cL,cL];have aS:18446744073709551616*(d*a5 (z.drop (i+1)))=d*(18446744073709551616*a5 (z.drop (i+1))):=rE _ _ _;omega
theorem xv{s:Nat}(h:s<=64):2 ^ (64 -s)*2 ^ s=18446744073709551616:=by rw[<-o1,zp h]
theorem UP{w s:Nat}(h:s<=64):w*2 ^ s % 18446744073709551616=w % 2 ^ (64 -s)*2 ^ s/\w*2 ^ s / 18446744073709551616=w / 2 ^ (64 -s):=by
 rw[<-xv h];exact⟨Wo _ _ _,KU _ _ (l3 s)⟩
theorem NB{t w s:Nat}(h:s<=64)(aI:t<2 ^ s):t ||| w*2 ^ s % 18446744073709551616=t+w*2 ^ s % 18446744073709551616:=by
 rw[(UP h).1,Nat.or_comm,Ug aI,Gq]
theorem aqg{x z:List Nat}{i w s t:Nat}(hs:s<=64)(ak:i+1<z.length)(aM:z[i]?=some t)(IV:z.getD (i+1) 0=0)(aa:x[i]?=some w)(h:a5 z=a5 (x.take i)*2 ^ s):
 a5 ((z.set i (t+w*2 ^ s % 18446744073709551616)).set (i+1) (w / 2 ^ (64 -s)))=a5 (x.take (i+1))*2 ^ s:=by
 have ax:=Di (y:=t+w*2 ^ s % 18446744073709551616) aM;have aS:=Di (l:=z.set i (t+w*2 ^ s % 18446744073709551616)) (i:=i+1) (x:=0) (y:=w / 2 ^ (64 -s)) (by
  rw[mS,aQ I,LO ak,IV])
 rw[js,iD] at aS;rw[aS,lz aa,c6,<-h];have cl:=Lq i (w*2 ^ s);rw[(UP hs).2] at cl;rw[cL] at ax;have dS:18446744073709551616 ^ i*w*2 ^ s=18446744073709551616 ^ i*(w*2 ^ s):=fy _ _ _;omega
theorem auB{X w s i:Nat}(hs:s<=64):(X+18446744073709551616 ^ (i+1)*w) / 2 ^ s=X / 2 ^ s+18446744073709551616 ^ i*(w*2 ^ (64 -s)):=by
 have e:18446744073709551616 ^ (i+1)*w=2 ^ s*(18446744073709551616 ^ i*(w*2 ^ (64 -s))):=by
  rw[fP,<-xv hs];ac_rfl
 rw[e,Wj _ _ (l3 s)]
theorem atO{x z:List Nat}{i w s t:Nat}(hs:s<=64)(ak:i+1<z.length)(aM:z[i]?=some t)(IV:z.getD (i+1) 0=0)(aa:x[i+1]?=some w)(h:a5 z=a5 (x.take (i+1)) / 2 ^ s):
 a5 ((z.set (i+1) (w / 2 ^ s)).set i (t+w*2 ^ (64 -s) % 18446744073709551616))=a5 (x.take (i+2)) / 2 ^ s:=by
 have ax:=Di (l:=z) (i:=i+1) (x:=0) (y:=w / 2 ^ s) (by rw[LO ak,IV]);have aS:=Di (l:=z.set (i+1) (w / 2 ^ s)) (i:=i) (x:=t) (y:=t+w*2 ^ (64 -s) % 18446744073709551616) (by rw[mS,aQ I,aM]);rw[js,iD] at ax;rw[ax,cL,h] at aS;rw[lz (i:=i+1) aa,auB hs];have cl:=Lq i (w*2 ^ (64 -s));rw[(UP (s:=64 -s) I).2,show 64 -(64 -s)=s by omega] at cl;omega
section
variable {Q:c7 Tryz.prog}{g0:Nat}{J:aj}
theorem XI{v:Value}{x d:Nat}(aa:cJ J v x)(g4:(aO x).length<=100000)(au:0<d)(zZ:d<18446744073709551616):Fn (aU Q g0) 111 [v,.int .u64 (d:Int)] [] J (fun u m' af=>J.le af/\m'=[]/\∃w,u=.tuple #[w,.int .u64 ((x % d:Nat):Int)]/\cJ af w (x / d)):=by
 have dC:=aa;obtain⟨a',bb,rfl,aL⟩:=aa.bA;refine Fn.b5 (b2 Tryz.func111) rfl rfl fun H=>?_;refine U 0x1439c0859 ?_;refine' W.step rfl (.of (nf rfl rfl rfl rfl rfl (eW rfl) ?aR ?ad ?ae fun pW=>?_));case aR=>exact ck
 case ad=>exact ck
 case ae=>exact ck
 refine U 0x302 ?_;rw[show((aO x).length:Int).toNat=(aO x).length by omega,zero_num];refine U 0x6af810ca1ce059 ?_;refine c3 [(8,.int .i64 ((((aO x).length):Int) -1)),(7,.int .u64 ((0):Int)),(0,_),(1,_),(6,_)] ?_;refine a2 ?_;refine' az.bH (fun(bK:Nat×Nat×(List Nat))=>match bK with|(k,r,z)=>⟨[(8,.int .i64 ((k:Int) -1)),(7,.int .u64 (r:Int))],[eO .u64 129 pW z],J,k<=(aO x).length/\r<d/\z.length=(aO x).length/\okW z/\a5 ((aO x).drop k)=d*a5 (z.drop k)+r,k⟩) ⟨(aO x).length,0,List.replicate (aO x).length 0⟩ ?hs ?a7
 case hs=>exact⟨bU _,au,kE,Aq,by rw[oi (bU _),oi (by rw[kE];exact bU _)];rfl⟩
 case a7=>
  rintro⟨k,r,z⟩ hinv;try simp only at hinv
  obtain⟨hk,ao,aM,bn,av⟩:=hinv;refine U 0x17c1039 ?_;refine If (fun kV=>?_) fun kV=>?_
  ·obtain⟨sD,eF,oz,ex,rfl,lj,lp⟩:=dC.at (nL I);obtain⟨a,aF,qb,jk⟩:=lp (k -1) I;have qb:nth oz (eF+((k:Int) -1).toNat*1)=some (.int .u64 (a:Int)):=by rw[show((k:Int) -1).toNat=k -1 by omega];exact qb
   have r1:(r*18446744073709551616+a) / d<18446744073709551616:=(ni au).2 (by
    have:=fq 18446744073709551616 (show r+1<=d from ao);rw[c6,dP d] at this;omega)
   refine U 0x14982108439d5f57 ?_;refine bC (G:=Qr ao jk zZ) (h:=?_);rintro v' m' af hle ⟨rfl,rfl,rfl⟩;refine U 0x31ce1 ?_;refine' iN ?hs ?_;case hs=>exact mf (k -1) I
   refine U 0x60430e702 ?_;refine dN ⟨k -1,(r*18446744073709551616+a) % d,z.set (k -1) ((r*18446744073709551616+a) / d)⟩ ?_;exact⟨I,gA _ au,by rw[im];exact aM,sc bn r1,aji I aF (by rw[show k -1+1=k by omega];exact av)⟩
  ·obtain rfl:k=0:=I
   have mv:x / d=a5 z/\x % d=r:=by
    rw[gO,gO,kd] at av;have:=yU (da:=x) (V:=d) (g:=a5 z) (by rw[dP];omega) (by rw[c6,dP];omega);exact⟨this.1,by rw[this.2,dP];omega⟩
   refine U 0xe757 ?_;refine' W.step rfl (Exec.call rfl rfl rfl rfl rfl rfl rfl (bm:=[eO .u64 129 pW z]) (cN:=[]) (.refl _) trivial (y8 (l:=z) bn I (bU _) I) ?_);rintro v' m' af hle ⟨k,rfl,hk,hg,rfl,rfl⟩;refine U 0xc0841 ?_;refine az.ie rfl fun aY=>?_;rw[<-mv.2];refine U 0x357 ?_;refine bp ?_;exact⟨aY,rfl,_,rfl,cJ.row (by rw[hg,mv.1,<-aM,cU (bU _)]) I hk (mu I) (aj.iE _ _ _)⟩
theorem aaS{v:Value}{x s:Nat}(aa:cJ J v x)(g4:(aO x).length<=100000)(hs:s<=63):Fn (aU Q g0) 133 [v,.int .u64 (s:Int)] [] J (fun u m' af=>∃a z,u=.slice (some ⟨a,0,none⟩) ((aO x).length+1) ((aO x).length+1)/\m'=[eO .u64 129 a z]/\z.length=(aO x).length+1/\okW z/\a5 z=x*2 ^ s/\J=af):=by
 have dC:=aa;obtain⟨a',bb,rfl,aL⟩:=aa.bA;refine Fn.b5 (b2 Tryz.func133) rfl rfl fun H=>?_;refine U 0xca1ce059 ?_;refine' W.step rfl (.of (nf rfl rfl rfl rfl rfl (eW rfl) ?aR ?ad ?ae fun pW=>?_));case aR=>exact ck
 case ad=>exact ck
 case ae=>exact ck
 refine U 0x302 ?_;rw[show(((aO x).length:Int)+1).toNat=(aO x).length+1 by omega,zero_num];refine U 0x6af809439 ?_;refine c3 [(14,.int .i64 ((0):Int)),(1,_),(5,_),(12,_),(13,_)] ?_;refine a2 ?_;refine' az.bH (fun(bK:Nat×(List Nat))=>match bK with|(i,z)=>⟨[(14,.int .i64 (i:Int))],[eO .u64 129 pW z],J,i<=(aO x).length/\z.length=(aO x).length+1/\okW z/\z.getD i 0<2 ^ s/\(∀t,i<t->z.getD t 0=0)/\a5 z=a5 ((aO x).take i)*2 ^ s,(aO x).length -i⟩) ⟨0,List.replicate ((aO x).length+1) 0⟩ ?hs ?a7
 case hs=>exact⟨c5 _,kE,Aq,by rw[nP,vm,aV I];exact l3 s,fun t _=>by rw[nP,vm];split<;>rfl,by rw[Oe,fO];show 0=0*_;rw[jE]⟩
 case a7=>
  rintro⟨i,z⟩ hinv;try simp only at hinv
  obtain⟨ak,aM,bn,Af,ht,av⟩:=hinv;refine U 0xbe099 ?_;refine If (fun fV=>?_) fun fV=>?_
  ·obtain⟨sD,eF,oz,ex,rfl,lj,lp⟩:=dC.at (nL I);obtain⟨w,hw,uy,uG⟩:=lp i I;obtain⟨t,aI⟩:∃t,z[i]?=some t:=⟨_,ey I⟩;have mA:=yK bn aI;have n7:t<2 ^ s:=by rw[kp aI] at Af;exact Af
   have an5:nth (cj .u64 z) (0+((i:Int)).toNat*1)=some (.int .u64 (t:Int)):=r9 aI I;have x':w*2 ^ s % 18446744073709551616<18446744073709551616:=gA _ bI;have Mx:t+w*2 ^ s % 18446744073709551616<18446744073709551616:=by rw[<-NB I n7];exact O8 (n:=64) mA x'
   have ML:w / 2 ^ (64 -s)<2 ^ s:=(ni (l3 _)).2 (by rw[dP,xv I];exact uG);have MK:w / 2 ^ (64 -s)<18446744073709551616:=mU (tC _ _) uG;refine U 0x502149821ce04249839d5f57 ?_;rw[AB];refine eZ V.o4 ?_;rw[JI mA x',NB I n7];refine eZ V.dz ?_;refine' iN ?hs ?_;case hs=>exact mf i I
   refine U 0x1842308738 ?_;rw[show(64:Int) -(s:Int)=((64 -s:Nat):Int) by omega];refine eZ V.o4 ?_;rw[y1];refine eZ V.dz ?_;refine' iN ?hs ?_;case hs=>exact mf (i+1) (by rw[im];omega)
   refine U 0x1808f38 ?_;refine dN ⟨i+1,(z.set i (t+w*2 ^ s % 18446744073709551616)).set (i+1) (w / 2 ^ (64 -s))⟩ ?_;exact⟨I,by rw[im,im];exact aM,sc (sc bn Mx) MK,by rw[nP,mS,aV rfl,aV (by rw[im];omega)];exact ML,fun t aI=>by rw[AA I,AA I];exact ht t I,aqg I I aI (ht _ I) hw av⟩
  ·obtain rfl:i=(aO x).length:=I
   refine U 0xd5f020e757 ?_;refine ja ?_;exact⟨pW,z,rfl,rfl,aM,bn,by rw[av,cU (bU _),kd],rfl⟩
end
end
end Go.Opn
namespace Go.Opn
noncomputable section
theorem Yv{A D W C:List Nat}{i k:Nat}(au:D.length=i)(hk:i<=k)(h:k<W.length):(A++(D++W.drop i)++C)[A.length+k]?=W[k]?:=by
 rw[lB,A0 (O0 _ _),OU]
 rw[DF (by rw[eX,jZ];omega)]
 rw[A0 (by omega),o0]
 congr 1
 omega
theorem qw{A D W C:List Nat}{i y:Nat}(au:D.length=i)(h:i<W.length):(A++(D++W.drop i)++C).set (A.length+i) y=A++((D++[y])++W.drop (i+1))++C:=by
 rw[lB,Wd _ _ (O0 _ _),OU]
 rw[afR _ _ (by rw[eX,jZ];omega)]
 rw[Wd _ _ (by omega),au,zq,AZ h,List.set_cons_zero]
 simp
theorem apY{W vs:List Nat}{n bT u1 bB v1 v0:Nat}(hN:W.length=n+3)(av:vs.length=n+2)(arW:okW W)(pq:okW vs)(ae:W[n+2]?=some bT)(ad:W[n+1]?=some u1)(aR:W[n]?=some bB)(aW:vs[n+1]?=some v1)(h7:vs[n]?=some v0):
 vl 18446744073709551616 (18446744073709551616 ^ n) (a5 W) (a5 vs) bT u1 bB v1 v0:=by
 have ax:=lz ae
 rw[cU (show W.length<=n+2+1 by omega),lz ad,lz aR] at ax
 have aS:=lz aW
 rw[cU (show vs.length<=n+1+1 by omega),lz h7] at aS
 have ec:=sj (th (i:=n) arW)
 have dA:=sj (th (i:=n) pq)
 rw[eA,g6 (by omega)] at ec dA
 refine⟨⟨_,?_,ec⟩,⟨_,?_,dA⟩⟩
 ·rw[ax,fP 18446744073709551616 (n+1),fP 18446744073709551616 n]
  obtain⟨p,aw⟩:∃p,p=18446744073709551616 ^ n:=⟨_,rfl⟩
  rw[<-aw,c6,c6,c6]
  have ba:p*18446744073709551616*18446744073709551616*bT=bT*18446744073709551616*18446744073709551616*p:=by ac_rfl
  have bd:p*18446744073709551616*u1=u1*18446744073709551616*p:=by ac_rfl
  have cm:p*bB=bB*p:=dP _ _
  rw[ba,bd,cm]
  omega
 ·rw[aS,fP 18446744073709551616 n]
  obtain⟨p,aw⟩:∃p,p=18446744073709551616 ^ n:=⟨_,rfl⟩
  rw[<-aw,c6]
  have bd:p*18446744073709551616*v1=v1*18446744073709551616*p:=by ac_rfl
  have cm:p*v0=v0*p:=dP _ _
  rw[bd,cm]
  omega
theorem aq7{W vs D:List Nat}{i g c b w u lo z c' b':Nat}(au:D.length=i)(hw:vs[i]?=some w)(hu:W[i]?=some u)(h:a5 D+g*a5 (vs.take i)=a5 (W.take i)+18446744073709551616 ^ i*(c+b))
 (ax:g*w+c=lo+18446744073709551616*c')(aS:z+lo+b=u+18446744073709551616*b'):
 a5 (D++[z])+g*a5 (vs.take (i+1))=a5 (W.take (i+1))+18446744073709551616 ^ (i+1)*(c'+b'):=by
 rw[Dj,au,lz hw,lz hu,cL]
 have cl:z+g*w+b+c=u+18446744073709551616*(c'+b'):=by omega
 have dS:=cC (18446744073709551616 ^ i*·) cl
 simp only[cL] at dS
 have cx:∀t:Nat,18446744073709551616 ^ i*(18446744073709551616*t)=18446744073709551616 ^ (i+1)*t:=fun t=>by rw[fP,fy]
 rw[cx,cx] at dS
 have iu:g*(18446744073709551616 ^ i*w)=18446744073709551616 ^ i*(g*w):=rE _ _ _
 rw[iu]
 rw[cL] at h
 rw[cL]
 omega
theorem aq8{W vs D:List Nat}{n g c b u z b':Nat}(au:D.length=n)(hN:W.length=n+1)(av:vs.length=n)(hu:W[n]?=some u)(h:a5 D+g*a5 (vs.take n)=a5 (W.take n)+18446744073709551616 ^ n*(c+b))
 (aS:z+c+b=u+18446744073709551616*b'):a5 (D++[z])+g*a5 vs=a5 W+18446744073709551616 ^ (n+1)*b':=by
 have pZ:=lz hu
 rw[cU (show W.length<=n+1 by omega)] at pZ
 rw[Dj,au,pZ]
 rw[cU (show vs.length<=n by omega)] at h
 have dS:=cC (18446744073709551616 ^ n*·) aS
 simp only[cL] at dS
 have cx:∀t:Nat,18446744073709551616 ^ n*(18446744073709551616*t)=18446744073709551616 ^ (n+1)*t:=fun t=>by rw[fP,fy]
 rw[cx] at dS
 rw[cL] at h
 omega
theorem agv{W vs D:List Nat}{i c w u:Nat}(au:D.length=i)(hw:vs[i]?=some w)(hu:W[i]?=some u)(h:a5 D+18446744073709551616 ^ i*c=a5 (W.take i)+a5 (vs.take i)):
 a5 (D++[(u+w+c) % 18446744073709551616])+18446744073709551616 ^ (i+1)*((u+w+c) / 18446744073709551616)=a5 (W.take (i+1))+a5 (vs.take (i+1)):=by
 rw[Dj,au,lz hw,lz hu]
 have e:18446744073709551616 ^ i*(u+w+c)=18446744073709551616 ^ i*((u+w+c) % 18446744073709551616)+18446744073709551616 ^ (i+1)*((u+w+c) / 18446744073709551616):=by
  conv=>lhs;rw[<-zn (u+w+c) 18446744073709551616]
  rw[cL,fP,fy]
 rw[cL,cL] at e
 omega
theorem agw{W vs D:List Nat}{n c u:Nat}(au:D.length=n)(hN:W.length=n+1)(av:vs.length=n)(hu:W[n]?=some u)(h:a5 D+18446744073709551616 ^ n*c=a5 (W.take n)+a5 (vs.take n)):
 a5 (D++[(u+0+c) % 18446744073709551616])+18446744073709551616 ^ (n+1)*((u+0+c) / 18446744073709551616)=a5 W+a5 vs:=by
 have pZ:=lz hu
 rw[cU (show W.length<=n+1 by omega)] at pZ
 rw[cU (show vs.length<=n by omega)] at h
 rw[Dj,au,pZ]
 have e:18446744073709551616 ^ n*(u+0+c)=18446744073709551616 ^ n*((u+0+c) % 18446744073709551616)+18446744073709551616 ^ (n+1)*((u+0+c) / 18446744073709551616):=by
  conv=>lhs;rw[<-zn (u+0+c) 18446744073709551616]
  rw[cL,fP,fy]
 rw[cL,cL] at e
 omega
theorem agX{Z g da v P br WA:Nat}(h:Z+g*v=da+P*1)(aM:Z<P)(cD:da<(g+1)*v)(e:WA+P*br=Z+v)(aC:br<=1):1<=g/\WA+(g -1)*v=da+P*(1 -br)/\da<(g -1+1)*v:=by
 have ay:1<=g:=by
  rcases jq g with k|k
  ·rw[k] at h;omega
  ·exact k
 obtain⟨p,rfl⟩:∃p,g=p+1:=⟨g -1,by omega⟩
 rw[oo]
 rw[c6,jb] at h
 refine⟨ay,?_,by rw[c6,jb];omega⟩
 obtain rfl|rfl:br=0\/br=1:=by omega
 ·omega
 ·omega
theorem vl.aqQ{β P da V bT u1 bB v1 v0:Nat}(h:vl β P da V bT u1 bB v1 v0)(nq:da<β*V)(Ad:bB<β)(E2:v0<β)(aE:¬bT<v1)(E0:u1<β):da<(β -1+1)*V:=by
 rw[zp (by omega)];exact nq
end
end Go.Opn
set_option maxHeartbeats 8000000
namespace Go.Opn
noncomputable section
open Go.Cre Go.RowKit Go.Proofs
theorem Jx{D:List Nat}{z:Nat}(h:okW D)(aM:z<18446744073709551616):okW (D++[z]):=Jv h fun x aa=>by rw[A2.1 aa];exact aM
theorem yz{D:List Nat}{z i:Nat}(h:D.length=i):(D++[z]).length=i+1:=by rw[eX,h];rfl
theorem c9.lt{J:aj}{b:Option Addr}{n c:Nat}{l:List Nat}(h:c9 .u64 J (.slice b n c) l)(ah:okW l)(aw:0<l.length):∃a off cells e,b=some ⟨a,off,none⟩/\J a=some (cells,e)/\∀i:Nat,i<l.length->∃x,l[i]?=some x/\nth cells (off+i*1)=some (.int .u64 (x:Int))/\x<18446744073709551616:=by
 obtain⟨a,off,cells,e,ad,ae,aD⟩:=h.at aw;exact⟨a,off,cells,e,ad,ae,fun i ak=>by obtain⟨x,aW,aT⟩:=aD i ak;exact⟨x,aW,aT,yK ah aW⟩⟩
section
variable {Q:c7 Tryz.prog}{g0:Nat}{J:aj}
theorem atN{v:Value}{x s:Nat}(aa:cJ J v x)(g4:(aO x).length<=100000)(hs:s<=63):Fn (aU Q g0) 135 [v,.int .u64 (s:Int)] [] J (kk J (x / 2 ^ s)):=by
 have dC:=aa;obtain⟨a',bb,rfl,aL⟩:=aa.bA;refine Fn.b5 (b2 Tryz.func135) rfl rfl fun H=>?_;refine U 0xa1ce059 ?_;refine' W.step rfl (.of (nf rfl rfl rfl rfl rfl (eW rfl) ?aR ?ad ?ae fun xj=>?_));case aR=>exact ck
 case ad=>exact ck
 case ae=>exact ck
 refine U 0x302 ?_;rw[show((aO x).length:Int).toNat=(aO x).length by omega,zero_num];refine U 0x6af809439 ?_;refine c3 [(13,.int .i64 ((0):Int)),(1,_),(5,_),(11,_),(12,_)] ?_;refine a2 ?_;refine' az.bH (fun(bK:Nat×(List Nat))=>match bK with|(i,z)=>⟨[(13,.int .i64 (i:Int))],[eO .u64 129 xj z],J,i<=(aO x).length/\z.length=(aO x).length/\okW z/\(0<i->z.getD (i -1) 0<2 ^ (64 -s))/\(∀t,i<=t->z.getD t 0=0)/\a5 z=a5 ((aO x).take i) / 2 ^ s,(aO x).length -i⟩) ⟨0,List.replicate (aO x).length 0⟩ ?hs ?a7
 case hs=>exact⟨c5 _,kE,Aq,fun q=>absurd q (A7 0),fun t _=>by rw[nP,vm];split<;>rfl,by rw[Oe,fO];exact(Pa _).symm⟩
 case a7=>
  rintro⟨i,z⟩ hinv;try simp only at hinv
  obtain⟨ak,aM,bn,Af,ht,av⟩:=hinv;refine U 0xbe099 ?_;refine If (fun fc=>?_) fun fc=>?_
  ·obtain⟨sD,eF,oz,ex,rfl,lj,lp⟩:=dC.at (nL I);obtain⟨w,hw,uy,uG⟩:=lp i I;have ML:w / 2 ^ s<2 ^ (64 -s):=(ni (l3 _)).2 (by rw[xv I];exact uG);have MK:w / 2 ^ s<18446744073709551616:=mU (tC _ _) uG;refine U 0x1408421ce04249839d5f57 ?_;rw[y1];refine eZ V.dz ?_;refine' iN ?hs ?_;case hs=>exact mf i I
   refine U 0x2f820738 ?_;refine If (fun qO=>?_) fun qO=>?_
   ·obtain⟨j,rfl⟩:∃j,i=j+1:=⟨i -1,I⟩;rw[oo] at Af;have Af:=Af (Nat.succ_pos j);obtain⟨t,aI⟩:∃t,z[j]?=some t:=⟨_,ey I⟩;have mA:=yK bn aI;have n7:t<2 ^ (64 -s):=by rw[kp aI] at Af;exact Af
    have an5:nth (cj .u64 (z.set (j+1) (w / 2 ^ s))) (0+(((j+1:Nat):Int) -1).toNat*1)=some (.int .u64 (t:Int)):=r9 (i:=j) (by rw[mS,aQ I];exact aI) I;have x':w*2 ^ (64 -s) % 18446744073709551616<18446744073709551616:=gA _ bI;have Mx:t+w*2 ^ (64 -s) % 18446744073709551616<18446744073709551616:=by rw[<-NB I n7];exact O8 (n:=64) mA x'
    have a7:j+1+1<=(aO x).length/\((z.set (j+1) (w / 2 ^ s)).set (j+1 -1) (t+w*2 ^ (64 -s) % 18446744073709551616)).length=(aO x).length/\okW ((z.set (j+1) (w / 2 ^ s)).set (j+1 -1) (t+w*2 ^ (64 -s) % 18446744073709551616))/\(0<j+1+1->((z.set (j+1) (w / 2 ^ s)).set (j+1 -1) (t+w*2 ^ (64 -s) % 18446744073709551616)).getD (j+1+1 -1) 0<2 ^ (64 -s))/\(∀u,j+1+1<=u->((z.set (j+1) (w / 2 ^ s)).set (j+1 -1) (t+w*2 ^ (64 -s) % 18446744073709551616)).getD u 0=0)/\a5 ((z.set (j+1) (w / 2 ^ s)).set (j+1 -1) (t+w*2 ^ (64 -s) % 18446744073709551616))=a5 ((aO x).take (j+1+1)) / 2 ^ s:=by
      rw[oo];refine⟨I,by rw[im,im];exact aM,sc (sc bn MK) Mx,fun _=>?_,fun u hu=>by rw[AA I,AA I];exact ht u I,atO I I aI (ht _ (bU _)) hw av⟩;rw[oo,AA I,nP,mS,aV rfl,aV I];exact ML
    refine U 0x30852618439 ?_;rw[show(64:Int) -(s:Int)=((64 -s:Nat):Int) by omega];refine eZ V.o4 ?_;rw[AB];refine eZ V.o4 ?_;rw[JI mA x',NB I n7];refine eZ V.dz ?_;refine' iN ?hs ?_;case hs=>exact mf (j+1 -1) (by rw[im];omega)
    refine U 0x1808f38 ?_;refine dN ⟨j+1+1,(z.set (j+1) (w / 2 ^ s)).set (j+1 -1) (t+w*2 ^ (64 -s) % 18446744073709551616)⟩ ?_;exact a7
   ·obtain rfl:i=0:=I
    have a7:0+1<=(aO x).length/\(z.set 0 (w / 2 ^ s)).length=(aO x).length/\okW (z.set 0 (w / 2 ^ s))/\(0<0+1->(z.set 0 (w / 2 ^ s)).getD (0+1 -1) 0<2 ^ (64 -s))/\(∀u,0+1<=u->(z.set 0 (w / 2 ^ s)).getD u 0=0)/\a5 (z.set 0 (w / 2 ^ s))=a5 ((aO x).take (0+1)) / 2 ^ s:=by
      refine⟨I,by rw[im];exact aM,sc bn MK,fun _=>?_,fun u hu=>by rw[AA I];exact ht u I,?_⟩
      ·rw[nP,mS,aV rfl,aV I];exact ML
      ·have ax:=Di (l:=z) (i:=0) (x:=0) (y:=w / 2 ^ s) (by rw[LO (z:=z) (t:=0) I,ht 0 (bU _)])
       rw[av,fO,show a5 []=0 from rfl,Pa,zo] at ax;rw[lz hw,fO,show a5 []=0 from rfl,zo,jb,j2];omega
    refine U 0x3011e757 ?_;refine dN ⟨0+1,z.set 0 (w / 2 ^ s)⟩ ?_;exact a7
  ·obtain rfl:i=(aO x).length:=I
   refine U 0xe757 ?_;refine' W.step rfl (Exec.call rfl rfl rfl rfl rfl rfl rfl (bm:=[eO .u64 129 xj z]) (cN:=[]) (.refl _) trivial (y8 (l:=z) bn I (bU _) I) ?_);rintro v' m' af hle ⟨k,rfl,hk,hg,rfl,rfl⟩;refine U 0x302 ?_;refine az.ie rfl fun aY=>?_;refine U 0x357 ?_;refine bp ?_;exact⟨aY,rfl,cJ.row (by rw[hg,<-aM,cU (bU _),av,cU (bU _),kd]) I hk (mu I) (aj.iE _ _ _)⟩
end
end
end Go.Opn

/- A part of the proof of TableLosses. -/
import Derived.Test.YtjbbbehaciogcaaGreatDoorCax
import Derived.Test.YtjbbbehaciogcaaGreatDoorCav
import Derived.Test.YtjbbbehaciogcaaGreatDoorCay
set_option linter.unusedVariables false
set_option linter.unusedSimpArgs false
set_option maxRecDepth 100000
namespace Go.Opn
noncomputable section
theorem aeI:∀{l:List Nat},(∀j y:Nat,l[j]?=some y->y=0)->aK l=0
 |[],_=>rfl
 |x::l,h=>by
  show x+1000000000*aK l=0
  rw[h 0 x rfl,aeI (l:=l) fun j y aX=>h (j+1) y aX]
theorem J6{l:List Nat}{k:Nat}(ah:dU l)(hk:k<=l.length)(aM:∀j y,k<=j->l[j]?=some y->y=0)(aE:∀y,0<k->l[k -1]?=some y->y≠0):l.take k=ag (aK l):=by
 have ad:kg (l.take k):=⟨wL ah,fun x aa=>by
  have aw:0<k:=by
   rcases jq k with q|q
   ·rw[q] at aa;cases aa
   ·exact q
  refine aE x aw ?_
  rw[rC,eA,g6 hk,jY,aV I] at aa
  exact aa⟩
 have ae:=AK l k hk
 rw[aeI (l:=l.drop k) fun j y aX=>by
  rw[o0] at aX
  exact aM (k+j) y I aX] at ae
 rw[qQ ad,ae]
 congr 1
theorem kJ{x:Nat}:∀{k:Nat},x<1000000000 ^ k->(ag x).length<=k:=by
 intro k
 induction k generalizing x with
 |zero=>
  intro h
  have:x=0:=by rw[zo] at h;omega
  rw[this,lR];exact bU _
 |succ k aP=>
  intro h
  by_cases q:x=0
  ·rw[q,lR];exact c5 _
  ·rw[uK q,kR]
   have:x / 1000000000<1000000000 ^ k:=by
        rw[ni bI,<-fP];exact h
   have:=aP this
   omega
theorem oN{x k:Nat}(h:(ag x).length<=k):x<1000000000 ^ k:=by
 have ad:=ly (hR x)
 rw[g'] at ad
 exact iM ad (mV bI h)
theorem wC{x:Nat}(h:x≠0):(ag x).length≠0:=by rw[uK h,kR];omega
theorem rc{x:Nat}(h:(ag x).length≠0):x≠0:=fun q=>by rw[q,lR] at h;exact h rfl
theorem Fo{x y:Nat}(h:(ag x).length<(ag y).length):x<y:=by
 have:=aeL (hR x) (Bk y) h
 rwa [g',g'] at this
theorem M0{x y i a b:Nat}(aF:(ag x)[i]?=some a)(ai:(ag y)[i]?=some b)(au:(ag x).drop (i+1)=(ag y).drop (i+1))(h:a<b):x<y:=by
 have:=awF (hR x) aF ai au h
 rwa [g',g'] at this
theorem wZ(l:List Nat)(i:Nat):aK (l.take (i+1))=aK (l.take i)+1000000000 ^ i*l.getD i 0:=by
 by_cases h:i<l.length
 ·rw[mj (ey h),nP,ey h];rfl
 ·rw[nP,jX I,cU I,cU I];rfl
theorem Kd(l:List Nat)(x:Nat):aK (l++[x])=aK l+1000000000 ^ l.length*x:=by rw[si,Kc]
theorem ud{l:List Nat}(h:dU l)(i:Nat):l.getD i 0<1000000000:=by
 rw[nP]
 rcases q:l[i]? with _|x
 ·decide
 ·exact qp h q
theorem F5{l:List Nat}{i:Nat}(h:l.length<=i):aK (l.take i)=aK l:=by rw[cU h]
theorem Nx:dU []:=fun z aM=>(by cases aM)
theorem aeJ{z:List Nat}{i y:Nat}(h:i<z.length):aK ((z.set i y).take (i+1))=aK (z.take i)+1000000000 ^ i*y:=by
 rw[mj (x:=y) (by rw[mS,aV rfl,aV h]),KO (bU i)]
theorem ahO(i s:Nat):1000000000 ^ i*s=1000000000 ^ i*(s % 1000000000)+1000000000 ^ (i+1)*(s / 1000000000):=by
 conv=>lhs;rw[<-zn s 1000000000]
 rw[cL,fP,fy]
theorem aut{x z:List Nat}{i r a d:Nat}(ak:i<z.length)(aF:x[i]?=some a)(h:aK (x.drop (i+1))=d*aK (z.drop (i+1))+r):
 aK (x.drop i)=d*aK ((z.set i ((r*1000000000+a) / d)).drop i)+(r*1000000000+a) % d:=by
 rw[y' aF,y' (l:=z.set i _) (i:=i) (x:=(r*1000000000+a) / d) (by rw[mS,aV rfl,aV ak]),DE I,h]
 have e:=mT (r*1000000000+a) d
 rw[cL,cL]
 have aS:1000000000*(d*aK (z.drop (i+1)))=d*(1000000000*aK (z.drop (i+1))):=rE _ _ _
 omega
theorem awD{l:List Nat}{n:Nat}(bn:dU l)(aq:n<=l.length)(h:aK l<1000000000 ^ n):aK (l.take n)=aK l/\aK (l.drop n)=0:=by
 have e:=AK l n aq
 have aM:aK (l.drop n)=0:=by
  rcases jq (aK (l.drop n)) with k|k
  ·exact k
  ·have:=hI (1000000000 ^ n) k
   omega
 rw[aM] at e
 exact⟨I,aM⟩
theorem aw7{A W C:List Nat}{n gW:Nat}(bn:dU (A++W++C))(hN:W.length=n+1)(av:gW<1000000000 ^ n)(au:aK ((A++W++C).drop (A.length+1))<gW):
 aK W<1000000000*gW/\aK C=0/\dU W:=by
 rw[lB,KJ,oi I,kj,OU] at au
 match W,hN with
 |w0::A',hN=>
  have hN:A'.length=n:=by simpa using hN
  rw[Gm,V2,gO,si,hN] at au
  have n':dU (w0::A'):=fun x aa=>bn x (om _ (ki _ aa))
  have aR:=n' w0 (.head _)
  have hM:aK C=0:=by
   rcases jq (aK C) with k|k
   ·exact k
   ·have:=hI (1000000000 ^ n) k
    omega
  rw[hM,js,iD] at au
  refine⟨?_,hM,n'⟩
  show w0+1000000000*aK A'<_
  omega
theorem aw9{A W ot C:List Nat}{n gW T q R:Nat}(hN:W.length=n)(Rz:ot.length=n)(hM:aK C=0)(e:aK ot=aK W % gW)(bQ:q=aK W / gW)(h:T=aK (A++W++C)+1000000000 ^ (A.length+1)*R):
 T=aK (A++ot++C)+1000000000 ^ A.length*(gW*q+1000000000*R):=by
 rw[h,si,si,si,si,hM,js,js,iD,iD,e,bQ]
 have ad:=mT (aK W) gW
 have ae:1000000000 ^ A.length*aK W=1000000000 ^ A.length*(gW*(aK W / gW))+1000000000 ^ A.length*(aK W % gW):=by rw[<-cL,ad]
 rw[ae,cL,fP,fy _ 1000000000 R]
 omega
theorem awE{q:List Nat}{j y:Nat}(h:j<q.length):aK ((q.set j y).drop j)=y+1000000000*aK (q.drop (j+1)):=by
 rw[y' (x:=y) (by rw[mS,aV rfl,aV h]),DE I]
theorem apZ{W vs:List Nat}{n bT u1 bB v1 v0:Nat}(hN:W.length=n+3)(av:vs.length=n+2)(arU:dU W)(pq:dU vs)(ae:W[n+2]?=some bT)(ad:W[n+1]?=some u1)(aR:W[n]?=some bB)(aW:vs[n+1]?=some v1)(h7:vs[n]?=some v0):
 vl 1000000000 (1000000000 ^ n) (aK W) (aK vs) bT u1 bB v1 v0:=by
 have ax:=mj ae
 rw[cU (show W.length<=n+2+1 by omega),mj ad,mj aR] at ax
 have aS:=mj aW
 rw[cU (show vs.length<=n+1+1 by omega),mj h7] at aS
 have ec:=ly (wL (i:=n) arU)
 have dA:=ly (wL (i:=n) pq)
 rw[eA,g6 I] at ec dA
 refine⟨⟨_,?_,ec⟩,⟨_,?_,dA⟩⟩
 ·rw[ax,fP 1000000000 (n+1),fP 1000000000 n]
  obtain⟨p,aw⟩:∃p,p=1000000000 ^ n:=⟨_,rfl⟩
  rw[<-aw,c6,c6,c6]
  have ba:p*1000000000*1000000000*bT=bT*1000000000*1000000000*p:=by ac_rfl
  have bd:p*1000000000*u1=u1*1000000000*p:=by ac_rfl
  have cm:p*bB=bB*p:=dP _ _
  rw[ba,bd,cm]
  omega
 ·rw[aS,fP 1000000000 n]
  obtain⟨p,aw⟩:∃p,p=1000000000 ^ n:=⟨_,rfl⟩
  rw[<-aw,c6]
  have bd:p*1000000000*v1=v1*1000000000*p:=by ac_rfl
  have cm:p*v0=v0*p:=dP _ _
  rw[bd,cm]
  omega
end
end Go.Opn
set_option maxHeartbeats 8000000
namespace Go.Opn
noncomputable section
open Go.Cre Go.RowKit Go.Proofs
abbrev Gx(J:aj)(x:Nat):Value->aN->aj->Prop:=fun u m' af=>J.le af/\m'=[]/\cS af u x
theorem cS.at{J:aj}{b:Option Addr}{n c x:Nat}(h:cS J (.slice b n c) x)(aw:x≠0):∃a off cells e,b=some ⟨a,off,none⟩/\J a=some (cells,e)/\∀i:Nat,i<(ag x).length->∃y,(ag x)[i]?=some y/\nth cells (off+i*1)=some (.int .u32 (y:Int))/\y<1000000000:=by
 have aq:0<(ag x).length:=by have:=wC aw;omega
 obtain⟨a,off,cells,e,ad,ae,aD⟩:=c9.at (k:=.u32) (l:=ag x) h aq;exact⟨a,off,cells,e,ad,ae,fun i ak=>by obtain⟨y,aW,aT⟩:=aD i ak;exact⟨y,aW,aT,qp (hR x) aW⟩⟩
theorem cS.row{J:aj}{a n cap x:Nat}{l:List Nat}{e:TypeId}(aE:l.take n=ag x)(aq:n<=l.length)(aC:n<=cap)(gm:cap<cO)(h:J a=some (cj .u32 l,e)):cS J (.slice (some ⟨a,0,none⟩) n cap) x:=by
 have:=c9.row (k:=.u32) aq aC gm h;rw[aE] at this;exact this
theorem cS.nil{J:aj}:cS J (.slice none 0 0) 0:=by unfold cS;rw[lR];exact c9.nil
theorem Fm{x:Nat}(aR:x≠0)(h:x<1000000000):ag x=[x]:=by
 rw[uK aR,sw h,A6 h,lR]
theorem Tv{x:Nat}(h:(ag x).length=1):ag x=[x]/\x<1000000000/\x≠0:=by
 have ad:x<1000000000:=by have:=oN (x:=x) (k:=1) (DN h);rwa [DP] at this
 have aR:x≠0:=rc I;exact⟨Fm aR ad,ad,aR⟩
theorem yy{x y:Nat}(h:x<=y):(ag x).length<=(ag y).length:=by
 apply sv
 intro q;have:=Fo q;omega
theorem JU{l:List Nat}{i:Nat}(ah:dU l)(h:i<l.length):∃u,l[i]?=some u/\u<1000000000:=⟨_,ey h,qp ah (ey h)⟩
theorem aqs{n c:Nat}{out:List Nat}(aC:c≠0)(h:out++ag c=ag n):out++[c % 1000000000]++ag (c / 1000000000)=ag n:=by
 rw[lB,afS,<-uK aC];exact h
section
variable {Q:c7 Tryz.prog}{g0:Nat}{J:aj}
theorem Tz{v:Value}{x:Nat}(h:cS J v x)(ai:(ag x).length<=100000):Fn (aU Q g0) 125 [v] [] J (fun u m' af=>u=.bool (decide (x=1))/\m'=[]/\J=af):=by
 obtain⟨b,c,rfl,k6⟩:=h.bA;refine Fn.b5 (b2 Tryz.func125) rfl rfl fun H=>?_;refine U 0x90a1ce059 ?_;refine c0 6 (fun g2=>?_) fun g2=>?_
 ·obtain⟨ax,aS,cl⟩:=Tv (x:=x) I;obtain⟨a,off,cells,e,rfl,fY,av⟩:=h.at cl;obtain⟨y,ap,av,_⟩:=av 0 I;rw[ax] at ap;obtain rfl:x=y:=DQ ap;refine U 0x1abe048224c1 ?_;refine gZ ?_
  exact⟨cC Value.bool (by((by_cases q:x=1<;>simp[q]<;>omega))),rfl,rfl⟩
 ·refine U 0x1abe048def7b ?_;refine gZ ?_
  have c:=g2
  exact⟨cC Value.bool (by(have q:x≠1:=fun q=>c (by rw[q,Fm bI bI];rfl);simp[q])),rfl,rfl⟩
theorem aaG{v w:Value}{x y:Nat}(ad:cS J v x)(ae:cS J w y)(aa:(ag x).length<=100000)(ap:(ag y).length<=100000):Fn (aU Q g0) 141 [v,w] [] J (fun u m' af=>u=.int .i64 (l4 x y)/\m'=[]/\J=af):=by
 obtain⟨a',bb,rfl,aL⟩:=ad.bA;obtain⟨bf,br,rfl,aG⟩:=ae.bA;refine Fn.b5 (b2 Tryz.func141) rfl rfl fun H=>?_;refine U 0x5f04284a1ce059 ?_;refine If (fun dp=>?_) fun dp=>?_
 ·refine U 0xbe08509439 ?_;refine If (fun fV=>?_) fun fV=>?_
  ·refine U 0x1abe059 ?_;refine gZ ?_
   exact⟨by rw[zF (Fo I)];rfl,rfl,rfl⟩
  ·refine U 0x6af816757 ?_;refine gZ ?_
   exact⟨by rw[zG (Fo I)];rfl,rfl,rfl⟩
 ·refine U 0x357c08650e757 ?_;refine c3 [(5,.int .i64 ((((ag x).length):Int) -1)),(0,_),(1,_)] ?_;refine a2 ?_;refine' az.kv (fun(k:Nat)=>⟨[(5,.int .i64 ((k:Int) -1))],k<=(ag x).length/\(ag x).drop k=(ag y).drop k,k⟩) ((ag x).length) ?hs ?a7;case hs=>exact⟨bU _,by rw[rB I,rB I]⟩
  case a7=>
   rintro k hinv;try simp only at hinv
   obtain⟨hk,au⟩:=hinv;refine U 0x17c1039 ?_;refine If (fun hC=>?_) fun hC=>?_
   ·obtain⟨a,o,bC,e,rfl,fY,av⟩:=ad.at (rc I);obtain⟨b0,o',zD,bD,rfl,BN,wm⟩:=ae.at (rc I);obtain⟨p,aw,jI,_⟩:=av (k -1) I;obtain⟨q,bQ,sZ,_⟩:=wm (k -1) I;have jI:nth bC (o+((k:Int) -1).toNat*1)=some (.int .u32 (p:Int)):=by rw[show((k:Int) -1).toNat=k -1 by omega];exact jI
    have sZ:nth zD (o'+((k:Int) -1).toNat*1)=some (.int .u32 (q:Int)):=by rw[show((k:Int) -1).toNat=k -1 by omega];exact sZ
    refine U 0x17d5f57 ?_;refine az.draw rfl (by kernel_rfl) (a1:=[.val 0,.val 1,.val 2,.val 3,.val 4,.val 5,.val 6,.val 7,.val 8]) (by kernel_rfl) ?_;refine U 0x5f044982149821 ?_;refine If (fun o6=>?_) fun o6=>?_
    ·refine U 0x1abe059 ?_;refine gZ ?_
     exact⟨by rw[zF (M0 aw bQ (by rw[show k -1+1=k by omega];exact au) I)];rfl,rfl,rfl⟩
    ·refine U 0x5f57 ?_;refine az.draw rfl (by kernel_rfl) (a1:=[.val 0,.val 1,.val 2,.val 3,.val 4,.val 5,.val 6,.val 7,.val 8]) (by kernel_rfl) ?_;refine U 0x5f044982149821 ?_;refine If (fun vI=>?_) fun vI=>?_
     ·refine U 0x1abe059 ?_;refine gZ ?_
      exact⟨by rw[zG (M0 bQ aw (by rw[show k -1+1=k by omega];exact au.symm) I)];rfl,rfl,rfl⟩
     ·refine U 0x60430e757 ?_;refine kx (k -1) ?_;exact⟨I,by rw[drop_cons (i:=k -1) aw,drop_cons (i:=k -1) bQ,show k -1+1=k by omega,au];congr 1;omega⟩
   ·refine U 0x6af816757 ?_;refine gZ ?_
    exact⟨by
     obtain rfl:k=0:=I
     rw[G0 (show x=y by rw[<-g' x,<-g' y];exact cC aK au)];rfl,rfl,rfl⟩
theorem M5{a n cap:Nat}{l:List Nat}(ah:dU l)(aE:n<=l.length)(aC:n<=cap)(gm:cap<1000000):
 Fn (aU Q g0) 158 [.slice (some ⟨a,0,none⟩) n cap] [eO .u32 78 a l] J (fun u m' af=>∃k,u=.slice (some ⟨a,0,none⟩) k cap/\k<=n/\l.take k=ag (aK (l.take n))/\m'=[eO .u32 78 a l]/\J=af):=by
 have an8:cap<cO:=mu gm;have rY:(l.take n).length=n:=by rw[eA];omega
 have fin:∀k:Nat,k<=n->(∀j y,k<=j->(l.take n)[j]?=some y->y=0)->(∀y,0<k->(l.take n)[k -1]?=some y->y≠0)->l.take k=ag (aK (l.take n)):=fun k hk ad ae=>by
  rw[<-J6 (wL ah) (by rw[rY];exact hk) ad ae,su,g6 hk]
 refine Fn.b5 (b2 Tryz.func158) rfl rfl fun H=>?_;refine U 0x1abe059 ?_;refine c3 [(0,.slice (some ⟨a,0,none⟩) (n) cap)] ?_;refine a2 ?_;refine' az.kv (fun(k:Nat)=>⟨[(0,.slice (some ⟨a,0,none⟩) k cap)],k<=n/\∀j y,k<=j->(l.take n)[j]?=some y->y=0,k⟩) (n) ?hs ?a7;case hs=>exact⟨bU _,fun j y ad ae=>by have:=(ff.1 ae).1;omega⟩
 case a7=>
  rintro k hinv;try simp only at hinv
  obtain⟨hk,aM⟩:=hinv;refine U 0x121439 ?_;refine c0 6 (fun g2=>?_) fun g2=>?_
  ·obtain⟨x,aa⟩:∃x,l[k -1]?=some x:=⟨_,ey I⟩;have e7:(l.take n)[k -1]?=some x:=by rw[jY,aV I];exact aa
   have aE:nth (cj .u32 l) (0+((k:Int) -1).toNat*1)=some (.int .u32 (x:Int)):=r9 aa I;refine U 0x2f84114619421 ?_;refine If (fun fc=>?_) fun fc=>?_
   ·refine U 0x328439d5f57 ?_;refine' W.step rfl (Exec.val rfl rfl (Df rfl rfl (eW rfl) rfl ?aR ?ad ?ae) ?_);case aR=>exact ck
    case ad=>exact ck
    case ae=>assumption
    refine U 0x302 ?_;rw[show((k:Int) -1).toNat=k -1 by omega];refine kx (k -1) ?_;exact⟨I,fun j y ad ae=>by
     by_cases q:k<=j
     ·exact aM j y q ae
     ·obtain rfl:j=k -1:=I
      rw[e7] at ae;injection ae with ae;omega⟩
   ·refine U 0xd5f020e757 ?_;refine ja ?_
    exact⟨k,rfl,hk,fin k hk aM (fun y ad ae=>by rw[e7] at ae;injection ae with ae;omega),rfl,rfl⟩
  ·refine U 0x6af81073abeaf846f7bdef7b ?_;refine ja ?_
   exact⟨k,rfl,hk,fin k hk aM (fun y ad ae=>by omega),rfl,rfl⟩
theorem F'{v:Value}{x:Nat}(h:cS J v x)(aq:(ag x).length<=2):Fn (aU Q g0) 124 [v] [] J (fun u m' af=>u=.int .u64 (x:Int)/\m'=[]/\J=af):=by
 have aR:=h;have S9:=oN aq;obtain⟨b,c,rfl,k6⟩:=h.bA;refine Fn.b5 (b2 Tryz.func124) rfl rfl fun H=>?_;refine U 0x357c08650e702ce059 ?_;refine c3 [(4,.int .i64 ((((ag x).length):Int) -1)),(3,.int .u64 ((0):Int)),(0,_)] ?_;refine a2 ?_;refine' az.kv (fun(bK:Nat×Nat)=>match bK with|(k,y)=>⟨[(4,.int .i64 ((k:Int) -1)),(3,.int .u64 (y:Int))],k<=(ag x).length/\y=aK ((ag x).drop k),k⟩) ⟨(ag x).length,0⟩ ?hs ?a7
 case hs=>exact⟨bU _,by rw[oi (bU _)];rfl⟩
 case a7=>
  rintro⟨k,y⟩ hinv;try simp only at hinv
  obtain⟨hk,ap⟩:=hinv;refine U 0x17c1039 ?_;refine If (fun ep=>?_) fun ep=>?_
  ·obtain⟨a,off,cells,e,rfl,fY,av⟩:=aR.at (rc I);obtain⟨p,aw,An,bH⟩:=av (k -1) I;have An:nth cells (off+((k:Int) -1).toNat*1)=some (.int .u32 (p:Int)):=by rw[show((k:Int) -1).toNat=k -1 by omega];exact An
   have azW:y<1000000000:=by
    have ad:=ly (Nw (i:=k) (hR x));rw[<-ap,jZ] at ad;have ae:1000000000 ^ ((ag x).length -k)<=1000000000 ^ 1:=mV bI I;rw[DP] at ae;omega
   refine U 0xc0861ce043724c108c39d5f57 ?_;refine kx ⟨k -1,y*1000000000+p⟩ ?_;exact⟨I,by rw[y' aw,show k -1+1=k by omega,<-ap];omega⟩
  ·obtain rfl:k=0:=I
   rw[gO,g'] at ap;refine U 0xd5f020e757 ?_;refine bp ?_;exact⟨by rw[ap];rfl,rfl,rfl⟩
theorem Ty{n:Nat}(aE:n<1000000000000000000):Fn (aU Q g0) 139 [.int .u64 (n:Int)] [] J (Gx J n):=by
 have aq:(ag n).length<=2:=aaX (iM aE bI);refine Fn.b5 (b2 Tryz.func139) rfl rfl fun H=>?_;refine U 0xd5f02ce059 ?_;refine c3 [(0,.int .u64 ((n):Int)),(3,(.slice none 0 0))] ?_;refine a2 ?_;refine' az.bH (fun(bK:Nat×(List Nat)×Value×aN)=>match bK with|(c,out,gq,bc)=>⟨[(0,.int .u64 (c:Int)),(3,gq)],bc,J,c<=n/\out++ag c=ag n/\Acc 78 1 gq out.length (cj .u32 out) bc,c⟩) ⟨n,[],.slice none 0 0,[]⟩ ?hs ?a7
 case hs=>exact⟨bU _,rfl,.nil⟩
 case a7=>
  rintro⟨c,out,gq,bc⟩ hinv;try simp only at hinv
  obtain⟨aC,ah,eT⟩:=hinv;refine U 0x17c1039 ?_;refine If (fun gl=>?_) fun gl=>?_
  ·have m3:c≠0:=I
   have oI:out.length<=2:=by
    have:=cC List.length ah;rw[eX] at this;omega
   refine U 0x78439d5f57 ?_;rw[show(c:Int).tmod 1000000000=((c % 1000000000:Nat):Int) from rfl];refine eZ V.lH ?_;refine mr fun xj=>?_;refine' W.step rfl (.of (tt rfl rfl rfl rfl rfl rfl (eW rfl) (wX Q g0) (fun i q=>by cases q) ?eT ?hm ?aa ?dT ?dX ?aq fun ae0 abB amU azX=>?_));case eT=>exact eT
   case hm=>exact(zm _ bc).symm
   case aa=>exact yV
   case dT=>rfl
   case dX=>rfl
   case aq=>exact(show out.length+1<=1000000 by omega)
   refine U 0x604f0e702 ?_;rw[show IntKind.u64.wrap ((c:Int).tdiv 1000000000)=((c / 1000000000:Nat):Int) from tp (d:=1000000000) I];have a7:c / 1000000000<=n/\(out++[c % 1000000000])++ag (c / 1000000000)=ag n/\Acc 78 1 ae0 (out++[c % 1000000000]).length (cj .u32 (out++[c % 1000000000])) abB:=⟨I,aqs m3 ah,by rw[CN,eX];exact amU⟩;refine dN ⟨c / 1000000000,out++[c % 1000000000],ae0,abB⟩ ?_ (hm:=st _ _);exact a7
  ·obtain rfl:c=0:=I
   rw[lR,hi] at ah;refine Acc.qv eT (.of_eq (hi bc).symm) fun bu aY al=>?_;rw[ah] at al;refine U 0xd5f020e757 ?_;refine bp ?_;exact⟨aY,rfl,_,al⟩
theorem aqA:Fn (aU Q g0) 140 [] [] J (Gx J 1):=by
 refine Fn.b5 (b2 Tryz.func140) rfl rfl fun H=>?_;refine U 0xce059 ?_;refine mr fun ba=>?_;refine U 0x302 ?_;refine az.ie rfl fun bG=>?_;refine U 0x357 ?_;refine bp ?_;exact⟨bG,rfl,cS.row (l:=[1]) (n:=1) (by rw[Fm bI bI];rfl) bI bI bI (aj.iE _ _ _)⟩
theorem aaI{v:Value}{x:Nat}(h:cS J v x)(aq:(ag x).length<=100000):Fn (aU Q g0) 146 [v] [] J (Gx J x):=by
 have aR:=h;obtain⟨b,c,rfl,k6⟩:=h.bA;refine Fn.b5 (b2 Tryz.func146) rfl rfl fun H=>?_;refine U 0x1ce059 ?_;refine' W.step rfl (.of (tt rfl rfl rfl rfl rfl rfl (eW rfl) (wX Q g0) (fun i q=>by cases q) ?eT ?hm ?aa ?dT ?dX ?aq fun u9 aAr Y3 azY=>?_));case eT=>exact .nil
 case hm=>exact .refl _
 case aa=>exact c9.rd aR
 case dT=>exact(show(cj .u32 (ag x)).length=(ag x).length*1 by rw[r8,ha])
 case dX=>exact CO _
 case aq=>exact(show 0+(ag x).length<=1000000 by omega)
 refine U 0x302 ?_;rw[j2,kj] at Y3;refine Y3.qv (by rw[hi]) fun bu aY al=>?_;refine U 0x357 ?_;refine bp ?_;exact⟨aY,rfl,_,al⟩
theorem adH{v:Value}{x d:Nat}(aa:cS J v x)(g4:(ag x).length<=100000)(au:0<d)(zZ:d<4294967296):Fn (aU Q g0) 155 [v,.int .u32 (d:Int)] [] J (fun u m' af=>J.le af/\m'=[]/\∃w,u=.tuple #[w,.int .u32 ((x % d:Nat):Int)]/\cS af w (x / d)):=by
 have dC:=aa;obtain⟨a',bb,rfl,aL⟩:=aa.bA;refine Fn.b5 (b2 Tryz.func155) rfl rfl fun H=>?_;refine U 0x1439c0859 ?_;refine' W.step rfl (.of (nf rfl rfl rfl rfl rfl (eW rfl) ?aR ?ad ?ae fun zv=>?_));case aR=>exact ck
 case ad=>exact ck
 case ae=>exact ck
 refine U 0x302 ?_;rw[show((ag x).length:Int).toNat=(ag x).length by omega,zero_num];refine U 0x6af810ca1ce059 ?_;refine c3 [(8,.int .i64 ((((ag x).length):Int) -1)),(7,.int .u64 ((0):Int)),(0,_),(1,_),(6,_)] ?_;refine a2 ?_;refine' az.bH (fun(bK:Nat×Nat×(List Nat))=>match bK with|(k,r,z)=>⟨[(8,.int .i64 ((k:Int) -1)),(7,.int .u64 (r:Int))],[eO .u32 78 zv z],J,k<=(ag x).length/\r<d/\z.length=(ag x).length/\dU z/\aK ((ag x).drop k)=d*aK (z.drop k)+r,k⟩) ⟨(ag x).length,0,List.replicate (ag x).length 0⟩ ?hs ?a7
 case hs=>exact⟨bU _,au,kE,FG,by rw[oi (bU _),oi (by rw[kE];exact bU _)];rfl⟩
 case a7=>
  rintro⟨k,r,z⟩ hinv;try simp only at hinv
  obtain⟨hk,ao,aM,bn,av⟩:=hinv;refine U 0x17c1039 ?_;refine If (fun zz=>?_) fun zz=>?_
  ·obtain⟨sD,eF,oz,ex,rfl,lj,lp⟩:=dC.at (rc I);obtain⟨a,aF,qb,jk⟩:=lp (k -1) I;have qb:nth oz (eF+((k:Int) -1).toNat*1)=some (.int .u32 (a:Int)):=by rw[show((k:Int) -1).toNat=k -1 by omega];exact qb
   have r1:(r*1000000000+a) / d<1000000000:=(ni au).2 (by
    have:=fq 1000000000 (show r+1<=d from ao);rw[c6,dP d] at this;omega)
   obtain⟨Uu,SD⟩:∃Uu,Uu=(r*1000000000+a) / d:=⟨_,rfl⟩;rw[<-SD] at r1;refine U 0x6043724c108c39d5f57 ?_;rw[show(r:Int)*1000000000+(a:Int)=((r*1000000000+a:Nat):Int) by omega];refine U 0x3dc108439 ?_;rw[tp (x:=r*1000000000+a) (d:=d) I,<-SD];refine U 0xce ?_;refine' iN ?hs ?_;case hs=>exact mf (k -1) I
   refine U 0xc09ee08738 ?_;rw[show(((r*1000000000+a:Nat):Int)).tmod (d:Int)=(((r*1000000000+a) % d:Nat):Int) from rfl];refine U 0x1810c39 ?_;refine dN ⟨k -1,(r*1000000000+a) % d,z.set (k -1) Uu⟩ ?_;exact⟨I,gA _ au,by rw[im];exact aM,Ap bn r1,by rw[SD];exact aut I aF (by rw[show k -1+1=k by omega];exact av)⟩
  ·obtain rfl:k=0:=I
   have mv:x / d=aK z/\x % d=r:=by
    rw[gO,gO,g'] at av;have:=yU (da:=x) (V:=d) (g:=aK z) (by rw[dP];omega) (by rw[c6,dP];omega);exact⟨this.1,by rw[this.2,dP];omega⟩
   refine U 0xe757 ?_;refine' W.step rfl (Exec.call rfl rfl rfl rfl rfl rfl rfl (bm:=[eO .u32 78 zv z]) (cN:=[]) (.refl _) trivial (M5 (l:=z) bn I (bU _) I) ?_);rintro v' m' af hle ⟨k,rfl,hk,hg,rfl,rfl⟩;refine U 0x18109c1 ?_;refine az.ie rfl fun aY=>?_;rw[<-mv.2];refine U 0x357 ?_;refine bp ?_;exact⟨aY,rfl,_,rfl,cS.row (by rw[hg,mv.1,<-aM,cU (bU _)]) I hk (mu I) (aj.iE _ _ _)⟩
theorem abg{v:Value}{x f size:Nat}(aa:cS J v x)(g4:(ag x).length<=size)(M2:size<=100001)(aA:f<=1000000000)(ai:x*f<1000000000 ^ size):Fn (aU Q g0) 156 [v,.int .u64 (f:Int),.int .i64 (size:Int)] [] J (fun u m' af=>∃a z,u=.slice (some ⟨a,0,none⟩) size size/\m'=[eO .u32 78 a z]/\z.length=size/\dU z/\aK z=x*f/\J=af):=by
 have dC:=aa;obtain⟨a',bb,rfl,aL⟩:=aa.bA;refine Fn.b5 (b2 Tryz.func156) rfl rfl fun H=>?_;refine U 0x1ce059 ?_;refine' W.step rfl (.of (nf rfl rfl rfl rfl rfl (eW rfl) ?aR ?ad ?ae fun pW=>?_));case aR=>exact ck
 case ad=>exact ck
 case ae=>exact ck
 refine U 0x302 ?_;rw[show((size:Int)).toNat=size by omega,zero_num];refine U 0x357c04a1ce059 ?_;refine c3 [(14,.int .i64 ((0):Int)),(8,.int .u64 ((0):Int)),(0,_),(1,_),(7,_),(13,_)] ?_;refine a2 ?_;refine' az.bH (fun(bK:Nat×Nat×(List Nat))=>match bK with|(i,c,z)=>⟨[(14,.int .i64 (i:Int)),(8,.int .u64 (c:Int))],[eO .u32 78 pW z],J,i<=size/\c<=1000000000/\z.length=size/\dU z/\aK (z.take i)+1000000000 ^ i*c=aK ((ag x).take i)*f,size -i⟩) ⟨0,0,List.replicate size 0⟩ ?hs ?a7
 case hs=>exact⟨c5 _,by decide,kE,FG,by rw[fO,fO];show 0+_*0=0*f;rw[js,jE]⟩
 case a7=>
  rintro⟨i,c,z⟩ hinv;try simp only at hinv
  obtain⟨ak,aC,aM,bn,av⟩:=hinv;refine U 0xbe099 ?_;refine If (fun fV=>?_) fun fV=>?_
  ·obtain⟨P,cI⟩:∃P,P=(ag x).getD i 0*f:=⟨_,rfl⟩;have sT:P<=999999999*1000000000:=by rw[cI];exact sx (by have:=ud (hR x) i;omega) aA
   obtain⟨s,hs⟩:∃s,s=c+P:=⟨_,rfl⟩;refine U 0x30428439c0839d5f57 ?_;refine c4 [8,20,0,1,7,9,13,14] ?_;refine a2 ?_;refine' az.en 2 [(8,.int .u64 (s:Int))] ?ah6 ?ajo;case ah6=>
    refine If (fun hC=>?_) fun hC=>?_
    ·obtain⟨sD,eF,oz,ex,rfl,lj,lp⟩:=dC.at (rc I);obtain⟨p,aw,An,bH⟩:=lp i I;have ay4:(p:Int)*(f:Int)=(P:Int):=by rw[cI,kp aw,gY]
     refine U 0xc08630b92608439 ?_;refine'⟨⟨_,rfl,⟨?m9,rfl,rfl,rfl,rfl,rfl,rfl,trivial⟩⟩,iZ _,rfl⟩;case m9=>(exact cC some (cC (Value.int .u64) (by rw[hs,cI,kp aw];omega)))
    ·refine hx ?_;refine'⟨⟨_,rfl,⟨?m9,rfl,rfl,rfl,rfl,rfl,rfl,trivial⟩⟩,iZ _,rfl⟩;case m9=>(exact cC some (cC (Value.int .u64) (by rw[hs,cI,p0 (l:=ag x) I];omega)))
   case ajo=>
    refine U 0xf08439 ?_;rw[show(s:Int).tmod 1000000000=((s % 1000000000:Nat):Int) from rfl];refine U 0xce ?_;refine' iN ?hs ?_;case hs=>exact mf i I
    refine U 0x30278738 ?_;rw[show IntKind.u64.wrap ((s:Int).tdiv 1000000000)=((s / 1000000000:Nat):Int) from tp (d:=1000000000) I];refine U 0xc0479 ?_;refine dN ⟨i+1,s / 1000000000,z.set i (s % 1000000000)⟩ ?_;exact⟨I,I,by rw[im];exact aM,Ap bn (gA _ bI),by
        rw[aeJ I,wZ (ag x),c6];have e:=ahO i s;have aS:1000000000 ^ i*s=1000000000 ^ i*c+1000000000 ^ i*(ag x).getD i 0*f:=by rw[hs,cI,cL,fy]
        omega⟩
  ·obtain rfl:i=size:=I
   rw[cU (l:=ag x) g4,g',<-aM,cU (bU _),aM] at av;have m3:c=0:=by
    rcases jq c with k|k
    ·exact k
    ·have:=hI (1000000000 ^ i) k
     omega
   refine U 0xd5f020e757 ?_;refine ja ?_;exact⟨pW,z,rfl,rfl,aM,bn,by rw[<-av,m3,js,iD],rfl⟩
end
end
end Go.Opn
namespace Go.Opn
noncomputable section
theorem aq6{W vs D:List Nat}{i g c w u z c':Nat}(au:D.length=i)(hw:vs[i]?=some w)(hu:W[i]?=some u)(h:aK D+g*aK (vs.take i)=aK (W.take i)+1000000000 ^ i*c)
 (e:z+g*w+c=u+1000000000*c'):aK (D++[z])+g*aK (vs.take (i+1))=aK (W.take (i+1))+1000000000 ^ (i+1)*c':=by
 rw[Kd,au,mj hw,mj hu,cL]
 have dS:=cC (1000000000 ^ i*·) e
 simp only[cL] at dS
 have cx:∀t:Nat,1000000000 ^ i*(1000000000*t)=1000000000 ^ (i+1)*t:=fun t=>by rw[fP,fy]
 rw[cx] at dS
 have iu:g*(1000000000 ^ i*w)=1000000000 ^ i*(g*w):=rE _ _ _
 rw[iu]
 omega
theorem ags{W vs D:List Nat}{i c w u z c':Nat}(au:D.length=i)(hw:vs[i]?=some w)(hu:W[i]?=some u)(h:aK D+1000000000 ^ i*c=aK (W.take i)+aK (vs.take i))(e:z+1000000000*c'=u+w+c):
 aK (D++[z])+1000000000 ^ (i+1)*c'=aK (W.take (i+1))+aK (vs.take (i+1)):=by
 rw[Kd,au,mj hw,mj hu]
 have dS:=cC (1000000000 ^ i*·) e
 simp only[cL] at dS
 have cx:∀t:Nat,1000000000 ^ i*(1000000000*t)=1000000000 ^ (i+1)*t:=fun t=>by rw[fP,fy]
 rw[cx] at dS
 omega
theorem ai'{W vs D:List Nat}{n g c un:Nat}(hN:W.length=n+1)(av:vs.length=n)(cp:D.length=n)(acg:dU D)(pq:dU vs)(hu:W[n]?=some un)(h:aK D+g*aK (vs.take n)=aK (W.take n)+1000000000 ^ n*c)(aC:c<=un)(ad:aK W<(g+1)*aK vs):aK W / aK vs=g/\aK W % aK vs=aK D:=by
 have pZ:=mj hu
 rw[cU (show W.length<=n+1 by omega)] at pZ
 rw[cU (show vs.length<=n by omega)] at h
 have mc:=ly pq
 rw[av] at mc
 rw[c6,jb] at ad
 have aoS:un=c:=by
  apply Wm _ aC
  apply sv
  intro q
  have:=hI (1000000000 ^ n) (show c+1<=un from q)
  rw[cL,ha] at this
  omega
 rw[aoS] at pZ
 have ae:g*aK vs<=aK W:=I
 obtain⟨aL,aG⟩:=yU ae (show aK W<(g+1)*aK vs by rw[c6,jb];exact ad)
 exact⟨aL,by rw[aG];omega⟩
theorem aja{W vs D E:List Nat}{n g c un m:Nat}(hN:W.length=n+1)(av:vs.length=n)(cp:D.length=n)(gJ:E.length=n)(acg:dU D)(arT:dU E)(pq:dU vs)(hu:W[n]?=some un)(h:aK D+g*aK (vs.take n)=aK (W.take n)+1000000000 ^ n*c)(aC:un<c)(ae:g*aK vs<aK W+aK vs)
 (aD:aK E+1000000000 ^ n*m=aK D+aK (vs.take n))(hm:m<=1):1<=g/\aK W / aK vs=g -1/\aK W % aK vs=aK E:=by
 have pZ:=mj hu
 rw[cU (show W.length<=n+1 by omega)] at pZ
 rw[cU (show vs.length<=n by omega)] at h aD
 have mc:=ly pq
 rw[av] at mc
 have LY:=ly acg
 rw[cp] at LY
 have YH:=ly arT
 rw[gJ] at YH
 have ay:1<=g:=by
  rcases jq g with k|k
  ·rw[k,jE,iD] at h
   have:=hI (1000000000 ^ n) (show 1<=c by omega)
   omega
  ·exact k
 obtain⟨p,rfl⟩:∃p,g=p+1:=⟨g -1,I⟩
 rw[c6,jb] at h ae
 rw[oo]
 have p6:c=un+m:=by
  obtain⟨d,au⟩:∃d,c=un+d:=⟨c -un,I⟩
  have ax:1000000000 ^ n*c=1000000000 ^ n*un+1000000000 ^ n*d:=by rw[au,cL]
  rcases Nat.lt_trichotomy d m with k|k|k
  ·have:m=1/\d=0:=I
   omega
  ·omega
  ·have:=hI (1000000000 ^ n) (show m+1<=d from k)
   rw[cL,ha] at this
   omega
 have ax:1000000000 ^ n*c=1000000000 ^ n*un+1000000000 ^ n*m:=by rw[p6,cL]
 have eM:=hI (1000000000 ^ n) (show un+1<=c from aC)
 rw[cL,ha] at eM
 have a6:p*aK vs<=aK W:=I
 obtain⟨aL,aG⟩:=yU (da:=aK W) (V:=aK vs) (g:=p) a6 (by rw[c6,jb];omega)
 exact⟨ay,aL,by rw[aG];omega⟩
theorem arx{y f t:Nat}(aE:(ag y)[(ag y).length -1]?=some t)(aR:y≠0)(aA:f=1000000000 / (t+1)):
 1<=f/\f<=500000000/\y*f<1000000000 ^ (ag y).length/\(∀l:List Nat,dU l->l.length=(ag y).length->aK l=y*f->∀v1,l[(ag y).length -1]?=some v1->500000000<=v1)/\1000000000 ^ ((ag y).length -1)*f<=y*f:=by
 have aq:0<(ag y).length:=by have:=wC aR;omega
 have s6:t≠0:=Fl y t (by rw[rC];exact aE)
 have mA:=qp (hR y) aE
 have p9:1<=f:=by rw[aA];exact OV I I
 have anr:f*(t+1)<=1000000000:=by rw[aA];exact Nat.div_mul_le_self _ _
 have azm:1000000000<(f+1)*(t+1):=by
  rw[aA]
  have:=Nat.lt_succ_iff.1 (Nat.lt_succ_of_le (bU (1000000000 / (t+1))))
  have ad:=mT 1000000000 (t+1)
  have ae:=gA 1000000000 (show 0<t+1 by omega)
  rw[c6,jb,dP]
  omega
 have us:f<=500000000:=by
  have:f*2<=f*(t+1):=hI _ I
  omega
 have aoM:500000000<=t*f:=by
  --f is at least half of Ol it aAq be
  rcases hH f 2 with k|k
  ·obtain rfl:f=1:=I
   omega
  ·have ad:t*1<=t*f:=hI _ p9
   have ax:f*(t+1)=t*f+f:=by rw[cL,ha,dP]
   have aS:(f+1)*(t+1)=t*f+t+f+1:=by rw[c6,cL,dP f];omega
   --t*f+t+f+1>10^9 and t*f+f<=10^9
   have ae:f*1<=f*t:=hI _ I
   rw[dP f t] at ae
   have aD:(t -1)*(f -1)>=0:=c5 _
   have a6:t+f<=t*f+1:=by
        obtain⟨a,rfl⟩:∃a,t=a+1:=⟨t -1,I⟩
        obtain⟨b,rfl⟩:∃b,f=b+1:=⟨f -1,I⟩
        rw[c6,cL]
        omega
   omega
 obtain⟨k,hk⟩:∃k,(ag y).length=k+1:=⟨(ag y).length -1,I⟩
 rw[hk,oo] at aE
 have qU:=mj aE
 rw[cU I,g'] at qU
 have hQ:=ly (wL (i:=k) (hR y))
 rw[eA,g6 I] at hQ
 rw[hk,oo]
 have au:y*f=aK ((ag y).take k)*f+1000000000 ^ k*(t*f):=by
  conv=>lhs;rw[qU]
  rw[c6,fy]
 have cD:y*f<1000000000 ^ (k+1):=by
  have ad:aK ((ag y).take k)*f<1000000000 ^ k*f:=DO hQ p9
  have ae:1000000000 ^ k*(f*(t+1))<=1000000000 ^ k*1000000000:=hI _ anr
  rw[cL,ha,cL,dP f t] at ae
  rw[fP,au]
  omega
 refine⟨p9,us,cD,fun l bn l9 nt v1 ln=>?_,?_⟩
 ·have el:=mj ln
  rw[cU I,nt] at el
  have ad:=ly (wL (i:=k) bn)
  rw[eA,g6 I] at ad
  have aD:1000000000 ^ k*500000000<=1000000000 ^ k*(t*f):=hI _ aoM
  have a6:1000000000 ^ k*500000000<1000000000 ^ k*(v1+1):=by rw[cL,ha];omega
  have:=O1 a6
  omega
 ·refine fq _ ?_
  have ad:1000000000 ^ k*1<=1000000000 ^ k*t:=hI _ I
  omega
theorem avO{sl:List Nat}{x f an kM gW:Nat}(aq:sl.length=an+1)(av:aK sl=x*f)(aA:0<f)(aa:x<1000000000 ^ an)(ad:1<=kM)(ae:kM<=an)(pj:1000000000 ^ (kM -1)*f<=gW):aK (sl.drop (an -kM+1))<gW:=by
 have e:=AK sl (an -kM+1) I
 have aD:x*f<1000000000 ^ an*f:=DO aa aA
 have a6:1000000000 ^ an*f=1000000000 ^ (an -kM+1)*(1000000000 ^ (kM -1)*f):=by
  rw[<-fy,<-o1,show an -kM+1+(kM -1)=an by omega]
 have eM:=hI (1000000000 ^ (an -kM+1)) pj
 refine O1 (a:=1000000000 ^ (an -kM+1)) ?_
 omega
end
end Go.Opn
namespace Go.Opn
noncomputable section
open Go.Cre Go.RowKit Go.Proofs
theorem T'{D:List Nat}{z:Nat}(h:dU D)(aM:z<1000000000):dU (D++[z]):=CR h fun x aa=>by rw[A2.1 aa];exact aM
theorem Nr{A D W C:List Nat}{i k off x:Nat}(au:D.length=i)(hk:i<=k)(h:W[k]?=some x)(ah:off=A.length+k):nth (cj .u32 (A++(D++W.drop i)++C)) off=some (.int .u32 (x:Int)):=by
 refine r9 (i:=A.length+k) ?_ ah;rw[Yv au hk (ff.1 h).1];exact h
theorem T4{A W C:List Nat}{k off x:Nat}(h:W[k]?=some x)(ah:off=A.length+k):nth (cj .u32 (A++W++C)) off=some (.int .u32 (x:Int)):=by
 have:=Nr (A:=A) (D:=[]) (W:=W) (C:=C) (i:=0) rfl (c5 k) h ah;rwa [kj,gO] at this
theorem UM{A D W C:List Nat}{i y off:Nat}(au:D.length=i)(h:i<W.length)(ah:off=A.length+i):gS off (cj .u32 (A++(D++W.drop i)++C)) [.int .u32 (y:Int)]=some (cj .u32 (A++((D++[y])++W.drop (i+1))++C)):=by
 rw[<-qw au h];exact mf (A.length+i) (by rw[eX,eX,eX,jZ];omega) ah
theorem c9.aqP{J:aj}{b:Option Addr}{n c:Nat}{l:List Nat}(h:c9 .u32 J (.slice b n c) l)(ah:dU l)(aw:0<l.length):∃a off cells e,b=some ⟨a,off,none⟩/\J a=some (cells,e)/\∀i:Nat,i<l.length->∃x,l[i]?=some x/\nth cells (off+i*1)=some (.int .u32 (x:Int))/\x<1000000000:=by
 obtain⟨a,off,cells,e,ad,ae,aD⟩:=c9.at h aw;exact⟨a,off,cells,e,ad,ae,fun i ak=>by obtain⟨x,aW,aT⟩:=aD i ak;exact⟨x,aW,aT,qp ah aW⟩⟩
section
variable {Q:c7 Tryz.prog}{g0:Nat}{J:aj}
theorem aqa{a n cap:Nat}{v:Value}{A ww C vs:List Nat}(av:c9 .u32 J v vs)(mc:vs.length=n+2)(pq:dU vs)(x2:ww.length=n+3)(n':dU ww)(rY:n<=100000)(pd:n+3<=cap)(am':cap<1000000)(eS:A.length<=1000000)
 (q6:∀v1,vs[n+1]?=some v1->500000000<=v1)(cD:aK ww<1000000000*aK vs):
 Fn (aU Q g0) 157 [.slice (some ⟨a,A.length,none⟩) (n+3) cap,v] [eO .u32 78 a (A++ww++C)] J (fun u m' af=>∃zd,u=.int .u32 ((aK ww / aK vs:Nat):Int)/\m'=[eO .u32 78 a (A++zd++C)]/\zd.length=n+3/\dU zd/\aK zd=aK ww % aK vs/\aK ww / aK vs<1000000000/\J=af):=by
 obtain⟨bv,lH,rfl⟩:=av.form;obtain⟨qL,JK,GZ,vS,rfl,amx,yj⟩:=av.aqP pq I;obtain⟨bT,pi,aqR⟩:=JU n' (i:=n+2) I;obtain⟨u1,E0,Fs⟩:=JU n' (i:=n+1) I;obtain⟨bB,Ad,CD⟩:=JU n' (i:=n) I;obtain⟨v1,ln,Jt,I8⟩:=yj (n+1) I;obtain⟨v0,E2,Js,CE⟩:=yj n I;have avX:=q6 v1 ln;have Cw:=apZ x2 mc n' pq pi E0 Ad ln E2;have arF:nth (cj .u32 (A++ww++C)) (A.length+((n+2:Nat):Int).toNat*1)=some (.int .u32 (bT:Int)):=T4 pi I;have arE:nth (cj .u32 (A++ww++C)) (A.length+(((n+2:Nat):Int) -1).toNat*1)=some (.int .u32 (u1:Int)):=T4 E0 I;have arD:nth (cj .u32 (A++ww++C)) (A.length+(((n+2:Nat):Int) -2).toNat*1)=some (.int .u32 (bB:Int)):=T4 Ad I;have Jt:nth GZ (JK+(((n+2:Nat):Int) -1).toNat*1)=some (.int .u32 (v1:Int)):=by rw[show(((n+2:Nat):Int) -1).toNat=n+1 by omega];exact Jt
 have Js:nth GZ (JK+(((n+2:Nat):Int) -2).toNat*1)=some (.int .u32 (v0:Int)):=by rw[show(((n+2:Nat):Int) -2).toNat=n by omega];exact Js
 have zU:0<aK vs:=by
  have e:=mj ln;rw[cU (show vs.length<=n+1+1 by omega)] at e;have:0<1000000000 ^ (n+1)*v1:=jr (vr bI) I;omega
 --tq first aAi is not ax1 tq ayl
 have azR:bT<=v1:=by
  have ax:=mj pi;rw[cU (show ww.length<=n+2+1 by omega)] at ax;have aS:=mj ln;rw[cU (show vs.length<=n+1+1 by omega)] at aS;have dA:=ly (wL (i:=n+1) pq);rw[eA,g6 I] at dA;apply sv
  intro q;have ad:1000000000 ^ (n+2)*(v1+1)<=1000000000 ^ (n+2)*bT:=hI _ q;have ae:1000000000*aK vs<1000000000*(1000000000 ^ (n+1)*(v1+1)):=O6 (by rw[cL,ha];omega) bI;have aD:1000000000*(1000000000 ^ (n+1)*(v1+1))=1000000000 ^ (n+2)*(v1+1):=by rw[fP 1000000000 (n+1)];ac_rfl
  omega
 rw[mc];refine Fn.b5 (b2 Tryz.func157) rfl rfl fun H=>?_;refine U 0x17c08a1ce059 ?_;refine az.draw rfl (by kernel_rfl) (a1:=[.val 0,.val 1,.val 2,.val 3,.val 4,.val 5,.val 6,.val 7,.val 8,.val 9,.val 10,.val 11,.val 12,.val 13]) (by kernel_rfl) ?_;refine U 0x6043724c30846e49821 ?_;rw[show(bT:Int)*1000000000+(u1:Int)=((bT*1000000000+u1:Nat):Int) by omega];obtain⟨hZ,s3⟩:∃q,q=(bT*1000000000+u1) / v1:=⟨_,rfl⟩;obtain⟨jR,cT⟩:∃r,r=(bT*1000000000+u1) % v1:=⟨_,rfl⟩;have hm:hZ*v1+jR=bT*1000000000+u1:=by rw[s3,cT,dP];exact mT _ v1
 have ZT:jR<v1:=by rw[cT];exact gA _ I
 have eB:aK ww<(hZ+1)*aK vs:=Cw.start CD (by rw[c6,jb];omega);have Iy:hZ<=1000000001:=by
  rw[s3];have:(bT*1000000000+u1) / v1<1000000002:=(ni I).2 I;omega
 refine a2 ?_;refine az.draw rfl (by kernel_rfl) (a1:=[.val 0,.val 1,.val 2,.val 3,.val 4,.val 5,.val 6,.val 7,.val 8,.val 9,.val 10,.val 11,.val 12,.val 13,.val 14,.val 15,.val 16,.val 17]) (by kernel_rfl) ?_;refine U 0x7b92618421 ?_;rw[tp (x:=bT*1000000000+u1) (d:=v1) I,<-s3];refine U 0x7b92618421 ?_;rw[show(((bT*1000000000+u1:Nat):Int)).tmod (v1:Int)=(jR:Int) from by rw[cT];rfl];refine U 0x6042 ?_;refine c4 [7,8,0,1,5] ?_;refine a2 ?_;refine' az.lb 2 (fun(g:Nat)=>⟨[(7,.int .u64 (g:Int))],[eO .u32 78 a (A++ww++C)],J,g<=1000000000/\aK ww<(g+1)*aK vs/\g*aK vs<aK ww+aK vs⟩) ?xE ?xL;case xE=>
  refine az.block ?_;refine c3 [(7,.int .u64 ((hZ):Int)),(8,.int .u64 ((jR):Int)),(0,_),(1,_),(5,_)] ?_;refine a2 ?_;refine' az.kv (fun(bK:Nat×Nat)=>match bK with|(g,r)=>⟨[(7,.int .u64 (g:Int)),(8,.int .u64 (r:Int))],g<=1000000001/\(r<1000000000\/g<=1000000000)/\r<2000000000/\g*v1+r=bT*1000000000+u1/\aK ww<(g+1)*aK vs,g⟩) ⟨hZ,jR⟩ ?hs ?a7
  case hs=>exact⟨Iy,.inl I,I,hm,eB⟩
  case a7=>
   rintro⟨g,r⟩ hinv;try simp only at hinv
   obtain⟨j6,Ia,z',z1,v9⟩:=hinv;obtain⟨P,cI⟩:∃P,P=g*v0:=⟨_,rfl⟩;have sT:P<=1000000001*999999999:=by rw[cI];exact sx j6 I
   have YR:(g:Int)*(v0:Int)=(P:Int):=by rw[cI,gY]
   refine c4 [0,1,5,7,8] ?_;refine a2 ?_;refine' az.en 0 [(74,.bool (decide ((r<1000000000/\(1000000000<=g\/r*1000000000+bB<P)))))] ?Bl ?Bq;case Bl=>
    refine az.Br [] rfl (by kernel_rfl) (a1:=[.val 0,.val 1,.val 2,.val 3,.val 4,.val 5,.val 6,.val 7,.val 8,.val 9,.val 10,.val 11,.val 12,.val 13,.val 14,.val 15,.val 16,.val 17,.val 18,.val 19,.val 20,.val 21,.val 22,.val 23,.val 24,.val 25]) (by kernel_rfl) ?_;refine U 0x481 ?_;refine sA 51 (fun Rf=>?_) fun Rf=>?_
    ·refine U 0x481 ?_;refine sA 54 (fun al2=>?_) fun al2=>?_
     ·refine U 0x184237bdef7bdef7bdef7bdef7b ?_;refine di (dk ?_);omega
     ·refine U 0x1842083724c3084611b92618421 ?_;refine di (dk ?_);omega
    ·refine U 0xc237bdef7bdef7bdef7bdef7bdef7b ?_;refine di (dk ?_);omega
   case Bq=>
    refine a2 ?_;refine If (fun Xe=>?_) fun Xe=>?_
    ·have EU:aK ww<g*aK vs:=by
       obtain⟨aW,aT⟩:=Xe;by_cases k:r*1000000000+bB<g*v0
       ·exact Cw.more z1 k
       ·have bo:1000000000<=g:=by rcases aT with aT|aT<;>omega
        exact iM cD (fq _ bo)
     have oG:1<=g:=by
       rcases jq g with k|k
       ·rw[k,jE] at EU;omega
       ·exact k
     refine U 0xc086e498610873810c39d5f57 ?_;refine kx ⟨g -1,r+v1⟩ ?_;exact⟨I,.inr I,I,by
      obtain⟨p,rfl⟩:∃p,g=p+1:=⟨g -1,I⟩;rw[c6,jb] at z1;rw[oo];omega,by rw[zp oG];exact EU⟩
    ·have R2:g<=1000000000:=I
     have amF:g*v0<=r*1000000000+bB:=by
       rw[<-cI];by_cases k:r<1000000000
       ·omega
       ·have aT:P<=1000000000*999999999:=by rw[cI];exact sx R2 I
        omega
     refine U 0x357 ?_;refine fG (g) ?_;exact⟨R2,v9,Cw.less z1 amF R2 bI I⟩
 case xL=>
  rintro g hinv;try simp only at hinv
  obtain⟨j6,v9,anC⟩:=hinv;refine U 0x357c04a1ce059 ?_;refine c3 [(87,.int .i64 ((0):Int)),(9,.int .u64 ((0):Int)),(0,_),(1,_),(5,_),(7,_),(85,_),(86,_)] ?_;refine a2 ?_;refine' az.bH (fun(bK:Nat×Nat×(List Nat))=>match bK with|(i,c,D)=>⟨[(87,.int .i64 (i:Int)),(9,.int .u64 (c:Int))],[eO .u32 78 a (A++(D++ww.drop i)++C)],J,i<=n+2/\c<=1000000000/\D.length=i/\dU D/\aK D+g*aK (vs.take i)=aK (ww.take i)+1000000000 ^ i*c,n+2 -i⟩) ⟨0,0,[]⟩ ?hs ?a7
  case hs=>exact⟨c5 _,by decide,rfl,Nx,by rw[fO,fO];rfl⟩
  case a7=>
   rintro⟨i,c,D⟩ hinv;try simp only at hinv
   obtain⟨ak,aC,cp,bn,k4⟩:=hinv;refine U 0xbe099 ?_;refine If (fun GV=>?_) fun GV=>?_
   ·obtain⟨w,hw,T7,lw⟩:=yj i I;obtain⟨u,hu,CC⟩:=JU n' (i:=i) I;have Jr:nth (cj .u32 (A++(D++ww.drop i)++C)) (A.length+(i:Int).toNat*1)=some (.int .u32 (u:Int)):=Nr cp (bU _) hu I;obtain⟨P,cI⟩:∃P,P=g*w:=⟨_,rfl⟩;have sT:P<=1000000000*999999999:=by rw[cI];exact sx j6 I
    have YR:(g:Int)*(w:Int)=(P:Int):=by rw[cI,gY]
    obtain⟨s,hs⟩:∃s,s=P+c:=⟨_,rfl⟩;refine U 0xc08611b821ce04249839d5f57 ?_;rw[show(g:Int)*(w:Int)+(c:Int)=(s:Int) by omega];refine U 0x1813c39 ?_;rw[show IntKind.u64.wrap ((s:Int).tdiv 1000000000)=((s / 1000000000:Nat):Int) from tp (d:=1000000000) I];refine U 0x785c930439 ?_;rw[show(s:Int).tmod 1000000000=((s % 1000000000:Nat):Int) from rfl];refine U 0xc1039c086e ?_;refine c4 [9,13,110,0,1,5,7,10,85,86,87] ?_;refine a2 ?_;refine' az.lb 3 (fun(bK:(Nat)×(Nat))=>match bK with|(z,br)=>⟨[(13,.int .i64 (z:Int)),(9,.int .u64 (br:Int))],[eO .u32 78 a (A++(D++ww.drop i)++C)],J,z<1000000000/\z+P+c=u+1000000000*br/\br<=1000000000⟩) ?ah1 ?ajj
    case ah1=>
     refine If (fun ahc=>?_) fun ahc=>?_
     ·refine U 0x3021873810c39 ?_;refine fG ⟨u+1000000000 -s % 1000000000,s / 1000000000+1⟩ ?_;exact⟨I,I,I⟩
     ·refine hx ?_;refine fG ⟨u -s % 1000000000,s / 1000000000⟩ ?_;exact⟨I,I,I⟩
    case ajj=>
     rintro⟨z,br⟩ hinv;try simp only at hinv
     obtain⟨aM,Tf,gm⟩:=hinv;refine U 0xce08439 ?_;refine' iN ?hs ?_;case hs=>exact UM cp I I
     refine U 0x1808f38 ?_;refine dN ⟨i+1,br,D++[z]⟩ ?_;exact⟨I,gm,yz cp,T' bn aM,aq6 cp hw hu k4 (by rw[<-cI];exact Tf)⟩
   ·obtain rfl:i=n+2:=I
    have aAx:nth (cj .u32 (A++(D++ww.drop (n+2))++C)) (A.length+((n+2:Nat):Int).toNat*1)=some (.int .u32 (bT:Int)):=Nr cp (bU _) pi I;refine U 0x6081724c10e757 ?_;refine c4 [1,7,127,0,5] ?_;refine a2 ?_;refine' az.lb 3 (fun(bK:(Nat)×(List Nat))=>match bK with|(bZ,E)=>⟨[(7,.int .u64 (bZ:Int))],[eO .u32 78 a (A++(E++ww.drop (n+2))++C)],J,aK ww / aK vs=bZ/\aK ww % aK vs=aK E/\E.length=n+2/\dU E⟩) ?ah2 ?ajk
    case ah2=>
     refine If (fun ahg=>?_) fun ahg=>?_
     ·have oG:1<=g:=by
       rcases jq g with k|k
       ·have ax:=ly bn
        rw[cp] at ax;rw[k,jE,iD] at k4;have:=hI (1000000000 ^ (n+2)) (show 1<=c by omega);omega
       ·exact k
      have arX:dU (D++ww.drop (n+2)):=CR bn (Nw n');have aAh:(D++ww.drop (n+2)).length=n+3:=by rw[eX,jZ];omega
      refine U 0x1810c39 ?_;rw[show(g:Int) -1=((g -1:Nat):Int) by omega];refine U 0x357c04a1ce059 ?_;refine c3 [(132,.int .i64 ((0):Int)),(14,.int .u32 ((0):Int)),(0,_),(5,_),(7,_),(130,_),(131,_)] ?_;refine a2 ?_;refine' az.bH (fun(bK:Nat×Nat×(List Nat))=>match bK with|(i,m,E)=>⟨[(132,.int .i64 (i:Int)),(14,.int .u32 (m:Int))],[eO .u32 78 a (A++(E++(D++ww.drop (n+2)).drop i)++C)],J,i<=n+2/\m<=1/\E.length=i/\dU E/\aK E+1000000000 ^ i*m=aK ((D++ww.drop (n+2)).take i)+aK (vs.take i),n+2 -i⟩) ⟨0,0,[]⟩ ?hs ?a7
      case hs=>exact⟨c5 _,by decide,rfl,Nx,by rw[fO,fO];rfl⟩
      case a7=>
       rintro⟨i,m,E⟩ hinv;try simp only at hinv
       obtain⟨ak,wh,gJ,uz,S1⟩:=hinv;refine U 0xbe099 ?_;refine If (fun ahh=>?_) fun ahh=>?_
       ·obtain⟨w,hw,T7,lw⟩:=yj i I;obtain⟨u,hu,CC⟩:=JU arX (i:=i) I;have Jr:nth (cj .u32 (A++(E++(D++ww.drop (n+2)).drop i)++C)) (A.length+(i:Int).toNat*1)=some (.int .u32 (u:Int)):=Nr gJ (bU _) hu I;refine U 0x1820738167021846149821ce04249839d5f57 ?_;refine c4 [14,17,146,0,5,7,15,130,131,132] ?_;refine a2 ?_;refine' az.lb 3 (fun(bK:(Nat)×(Nat))=>match bK with|(z,eE)=>⟨[(17,.int .u32 (z:Int)),(14,.int .u32 (eE:Int))],[eO .u32 78 a (A++(E++(D++ww.drop (n+2)).drop i)++C)],J,z<1000000000/\z+1000000000*eE=u+w+m/\eE<=1⟩) ?ah4 ?ajm
        case ah4=>
         refine If (fun ahi=>?_) fun ahi=>?_
         ·refine U 0xc0b3810c39 ?_;refine fG ⟨u+w+m -1000000000,1⟩ ?_;exact⟨I,I,I⟩
         ·refine hx ?_;refine fG ⟨u+w+m,0⟩ ?_;exact⟨I,I,I⟩
        case ajm=>
         rintro⟨z,eE⟩ hinv;try simp only at hinv
         obtain⟨aM,Tf,ZE⟩:=hinv;refine U 0x608439 ?_;refine' iN ?hs ?_;case hs=>exact UM gJ I I
         refine U 0x1808f38 ?_;refine dN ⟨i+1,eE,E++[z]⟩ ?_;exact⟨I,ZE,yz gJ,T' uz aM,ags gJ hw hu S1 Tf⟩
       ·obtain rfl:i=n+2:=I
        rw[List.take_left' cp] at S1;have mv:=aja (n:=n+2) x2 mc cp gJ bn uz pq pi k4 I anC S1 wh;refine U 0x357 ?_;refine fG ⟨g -1,E⟩ ?_ (hm:=⟨[],by rw[hi];show List.Perm [(a,dI.row (cj .u32 (A++(E++ww.drop (n+2))++C)) 78)] [(a,dI.row (cj .u32 (A++(E++(D++ww.drop (n+2)).drop (n+2))++C)) 78)];rw[List.drop_left' cp]⟩);exact⟨mv.2.1,mv.2.2,gJ,uz⟩
     ·have mv:=ai' (n:=n+2) x2 mc cp bn pq pi k4 I v9;refine hx ?_;refine fG ⟨g,D⟩ ?_;exact⟨mv.1,mv.2,cp,bn⟩
    case ajk=>
     rintro⟨bZ,E⟩ hinv;try simp only at hinv
     obtain⟨p9,us,gJ,uz⟩:=hinv;refine U 0x30439 ?_;refine' iN ?hs ?_;case hs=>exact UM (y:=0) gJ I I
     refine nS ?_;have aoi:bZ<1000000000:=by
       rw[<-p9];exact(ni zU).2 cD
     refine U 0x6af813839 ?_;refine ja ?_;exact⟨E++[0],by rw[p9];rfl,by rw[oi (show ww.length<=n+2+1 by omega),hi],yz gJ,T' uz bI,by rw[Kd,js,iD,us],by rw[p9];exact aoi,rfl⟩
end
end
end Go.Opn

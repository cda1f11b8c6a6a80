/- A part of the proof of TableRounds. -/
import Derived.Test.YtfdhclnfkafebaaGreatDoorCbc
set_option maxRecDepth 100000
set_option maxHeartbeats 8000000
set_option linter.unusedVariables false
set_option linter.unusedSimpArgs false
namespace Go.Opn
noncomputable section
open Go.Cre Go.RowKit Go.Proofs
theorem aet{x y i b b' d:Nat}{out:List Nat}(aD:out.length=i)(h:aN ((ai x).take i)+1000000000 ^ i*b=aN out+aN ((ai y).take i))(aq:d+b+(ai y).getD i 0=(ai x).getD i 0+1000000000*b'):aN ((ai x).take (i+1))+1000000000 ^ (i+1)*b'=aN (out++[d])+aN ((ai y).take (i+1)):=by
 rw[Ia,vQ,vQ,aD];have e:1000000000 ^ i*d+1000000000 ^ i*b+1000000000 ^ i*(ai y).getD i 0=1000000000 ^ i*(ai x).getD i 0+1000000000 ^ (i+1)*b':=by
  rw[fC,fi,<-cS,<-cS,<-cS,aq]
 omega
theorem aes{x y b:Nat}{out:List Nat}(eM:y<=x)(cc:dS out)(aD:out.length=(ai x).length)(h:aN ((ai x).take (ai x).length)+1000000000 ^ (ai x).length*b=aN out+aN ((ai y).take (ai x).length))(ak:b<2):aN out=x -y:=by
 have hlen:(ai y).length<=(ai x).length:=by
  rcases iK (ai x).length (ai y).length with q|q
  ·have:=oi (x:=x) (bX _)
   have ad:=aau (hB x) (z5 y) q;rw[e5,e5] at ad;omega
  ·exact q
 rw[D9 (bX _),D9 hlen,e5,e5] at h;have af:=k' cc;rw[aD] at af;rcases(show b=0\/b=1 by omega) with rfl|rfl
 ·rw[jk] at h;omega
 ·rw[gT] at h;omega
section
variable {Q:dD Tryz.prog}{g0:Nat}{J:an}
theorem apf{v:Value}{l:List Nat}{bZ:a8}(h:gy 72 1 v l.length (b7 .u32 l) bZ)(aj:dS l)(aD:l.length<=200000):Fn (a1 Q g0) 120 [v] bZ J (fun u m' ah=>m'=bZ/\J=ah/\gy 72 1 u (ai (aN l)).length (b7 .u32 (ai (aN l))) bZ):=by
 have ah':∃b c,v=.slice b l.length c:=by
  rcases h.form with⟨b,aX,aU,_⟩|⟨a,full,rest,aX,_⟩
  ·exact⟨_,_,by rw[aU];exact aX⟩
  ·exact⟨_,_,aX⟩
 obtain⟨b,c,rfl⟩:=ah';have m9:=h.row;refine Fn.cr (cu Tryz.func120) rfl rfl fun H=>?_;refine rg ?_;refine U V.au ?_;refine aA ?_;refine ae.block ?_;refine' ae.dO (l':=[(0,.slice b (l.length) c)]) ⟨?w0,trivial⟩ (bx _) ?_;case w0=>first|exact bg|exact aa some (aa (Value.int .u64) I)|exact aa some (aa (Value.int .u32) I)|exact aa some (aa (Value.int .i64) I)
 refine ao ?_;refine' ae.lE (α:=(Nat)) (fun(k:Nat)=>[(0,.slice b k c)]) (fun(k:Nat)=>k<=l.length/\∀j y,k<=j->l[j]?=some y->y=0) (fun(k:Nat)=>k) (l.length) ?ag ?bD;case ag=>exact⟨bX _,fun j y ad af=>by have:=(gS.1 af).1;omega⟩
 case bD=>
  rintro k hinv;try simp only at hinv
  obtain⟨hk,aL⟩:=hinv;refine rg ?_;refine al ?_;refine U V.bb ?_;refine U V.ay ?_;refine ft 6 (fun jD=>?_) fun jD=>?_
  ·obtain⟨x,ab⟩:∃x,l[k -1]?=some x:=⟨_,eE I⟩;obtain⟨a,full,rest,bm,rfl,kc,CX⟩:=m9 I;injection bm with bm _ eu
   subst bm;subst eu;have aE:nth full (0+((k:Int) -1).toNat*1)=some (.int .u32 (x:Int)):=by
    rw[Q6 kc I];exact oV ab I
   refine bo V.ay ?_;refine bo V.ay ?_;refine bo V.h7 ?_;refine bo V.aY ?_;refine bo V.bh ?_;refine bo V.cI ?_;refine bo V.bb ?_;refine U V.bt ?_;refine aA ?_;refine If (fun gJ=>?_) fun gJ=>?_
   ·refine ao ?_;refine ae.skip ?_;refine ao ?_;refine ae.block ?_;refine rg ?_;refine al ?_;refine U V.aY ?_;refine' W.step rfl (Exec.val rfl rfl (R9 rfl rfl rfl (hb Q g0) ?hm ?aO ?ad) ?_);case hm=>repeat first|exact .head _|refine .tail _ ?_|refine eF _ ?_
    case aO=>exact bz
    case ad=>exact bz
    refine U V.au ?_;refine a3 ?_;rw[show((k:Int) -1).toNat=k -1 by omega];refine'⟨(k -1),_,?hinv,?gi,rfl,⟨?dc,trivial⟩,bx _,rfl⟩;case dc=>first|exact bg|exact aa some (aa (Value.int .u64) I)|exact aa some (aa (Value.int .u32) I)|exact aa some (aa (Value.int .i64) I)
    case gi=>exact bz
    case hinv=>
     exact⟨I,fun j y ad af=>by
         by_cases q:k<=j
         ·exact aL j y q af
         ·obtain rfl:j=k -1:=I
          rw[ab] at af;injection af with af;omega⟩
   ·refine ao ?_;refine ae.exit ?_;refine rg ?_;refine al ?_;refine aA ?_;refine ae.ret ?_;refine'⟨.inr rfl,rfl,_,_,.tmp rfl .nil,bx _,?_⟩;first
      |(have c:=gJ;exact⟨rfl,rfl,by
           rw[<-BE aj hk aL fun y ad af=>by rw[ab] at af;injection af with af;omega];rw[dY,gn hk];obtain⟨_,_,_,bm,bW,n2⟩:=h.cut hk I;injection bm with bm
           injection bm with bm
           injection bm with bm
           subst bm;have e:(b7 IntKind.u32 l).take (k*1)=b7 .u32 (l.take k):=by rw[gT];unfold b7;rw[zI]
           rw[<-e];exact n2⟩)
      |exact⟨rfl,rfl,by
           have wX:k=0:=I
           subst wX;rw[<-BE aj hk aL fun y ad af=>by omega];rw[fh];rcases jj l.length with q|q
           ·have e:l=[]:=kU q
            subst e;exact h
           ·obtain⟨a,full,rest,bm,bW,n2⟩:=h.cut hk q
            injection bm with bm _ eu
            subst bm;subst eu;exact n2⟩
  ·refine bs ?_;refine bs ?_;refine bs ?_;refine bs ?_;refine bs ?_;refine bs ?_;refine bs ?_;refine U V.bt ?_;refine aA ?_;refine ae.sb rfl ?_;refine ao ?_;refine ae.exit ?_;refine rg ?_;refine al ?_;refine aA ?_;refine ae.ret ?_;refine'⟨.inr rfl,rfl,_,_,.tmp rfl .nil,bx _,?_⟩;first
    |exact⟨rfl,rfl,by
          have wX:k=0:=I
          subst wX;rw[<-BE aj hk aL fun y ad af=>by omega];rw[fh];rcases jj l.length with q|q
          ·have e:l=[]:=kU q
           subst e;exact h
          ·obtain⟨a,full,rest,bm,bW,n2⟩:=h.cut hk q
           injection bm with bm _ eu
           subst bm;subst eu;exact n2⟩
theorem XS{v w:Value}{x y:Nat}(ad:cM J v x)(af:cM J w y)(eM:y<=x)(aD:(ai x).length<=200000)(n6:(ai y).length<=200000):Fn (a1 Q g0) 90 [v,w] [] J (fun u m' ah=>J=ah/\gy 72 1 u (ai (x -y)).length (b7 .u32 (ai (x -y))) m'):=by
 have ad:cR .u32 J v (ai x):=ad;have af:cR .u32 J w (ai y):=af;obtain⟨bQ,bH,rfl⟩:=ad.form;obtain⟨bL,bM,rfl⟩:=af.form;refine Fn.cr (cu Tryz.func90) rfl rfl fun H=>?_;refine rg ?_;refine U V.au ?_;refine a2 ?_;refine U V.au ?_;refine a2 ?_;refine U V.au ?_;refine a2 ?_;refine U V.au ?_;refine aA ?_;refine ae.block ?_;refine' ae.dO (l':=[(7,.int .i64 ((0):Int)),(6,.int .i64 ((0):Int)),(5,(.slice none 0 0)),(0,_),(1,_)]) ⟨?kk,?j4,?gm,rfl,rfl,trivial⟩ (bx _) ?_;case kk=>first|exact bg|exact aa some (aa (Value.int .u64) I)|exact aa some (aa (Value.int .u32) I)|exact aa some (aa (Value.int .i64) I)
 case j4=>first|exact bg|exact aa some (aa (Value.int .u64) I)|exact aa some (aa (Value.int .u32) I)|exact aa some (aa (Value.int .i64) I)
 case gm=>first|exact bg|exact aa some (aa (Value.int .u64) I)|exact aa some (aa (Value.int .u32) I)|exact aa some (aa (Value.int .i64) I)
 refine ao ?_;refine' ae.e2 (fun(a6:Nat×Nat×(List Nat)×Value×a8)=>match a6 with|(i,b,out,gm,bZ)=>⟨[(7,.int .i64 (i:Int)),(6,.int .i64 (b:Int)),(5,gm)],bZ,J,i<=(ai x).length/\out.length=i/\b<2/\dS out/\aN ((ai x).take i)+1000000000 ^ i*b=aN out+aN ((ai y).take i)/\gy 72 1 gm out.length (b7 .u32 out) bZ,(ai x).length -i⟩) ⟨0,0,[],.slice none 0 0,[]⟩ ?ag ?bD
 case ag=>exact⟨ep _,rfl,by decide,Le,by rw[fh,fh];rfl,.inl ⟨.nil,BS,Bb⟩⟩
 case bD=>
  rintro⟨i,b,out,gm,bZ⟩ hinv;try simp only at hinv
  obtain⟨ar,hz,aJ,cc,az,eW⟩:=hinv;refine rg ?_;refine al ?_;refine U V.bb ?_;refine aA ?_;refine If (fun jn=>?_) fun jn=>?_
  ·obtain⟨a,o,bN,e,rfl,hy,l4⟩:=ad.at I;obtain⟨p,ap,ha⟩:=l4 i I;have aX:=ig ap;have aU:=tu (hB y) i;have b0:=pJ (hB x) ap;obtain⟨b',d,oI,JX,aq⟩:∃b' d:Nat,d+b+(ai y).getD i 0=p+1000000000*b'/\b'<2/\d<1000000000:=by
    by_cases q:p<b+(ai y).getD i 0
    ·exact⟨1,p+1000000000 -b -(ai y).getD i 0,I,by decide,I⟩
    ·exact⟨0,p -b -(ai y).getD i 0,I,by decide,I⟩
   refine dW ?_;refine ao ?_;refine ae.block ?_;refine rg ?_;refine al ?_;refine U V.bh ?_;refine U V.cg ?_;refine U V.d' ?_;refine U V.ay ?_;refine U V.aY ?_;refine U V.au ?_;refine a2 ?_;refine al ?_;refine U V.bb ?_;refine a3 ?_;refine eP [8,25,0,1,5,7] ?_;refine ao ?_;refine' ae.hf 2 [(8,.int .i64 ((p:Int) -b -((ai y).getD i 0:Nat)))] ?adB ?aeK;case adB=>
    refine If (fun mY=>?_) fun mY=>?_
    ·obtain⟨bV,o',yp,b3,rfl,wJ,PU⟩:=af.at I;obtain⟨h8,AJ,asD⟩:=PU i I;have dN:=ig AJ;have gl:=pJ (hB y) AJ;refine rg ?_;refine al ?_;refine U V.bh ?_;refine U V.cg ?_;refine U V.d' ?_;refine U V.aY ?_;refine U V.au ?_;refine a3 ?_;refine'⟨⟨_,rfl,⟨?nD,rfl,rfl,rfl,rfl,trivial⟩⟩,bx _,rfl⟩;case nD=>first|exact aa some (aa (Value.int .i64) (by have q:=ig AJ;omega))|exact aa some (aa (Value.int .i64) (by have q:=lX (l:=ai y) (i:=i) I;omega))
    ·refine ao ?_;refine ae.skip ?_;refine'⟨⟨_,rfl,⟨?nD,rfl,rfl,rfl,rfl,trivial⟩⟩,bx _,rfl⟩;case nD=>first|exact aa some (aa (Value.int .i64) (by have q:=ig AJ;omega))|exact aa some (aa (Value.int .i64) (by have q:=lX (l:=ai y) (i:=i) I;omega))
   case aeK=>
    refine rg ?_;refine U V.au ?_;refine a2 ?_;refine U V.ay ?_;refine U V.bb ?_;refine a3 ?_;refine eP [6,8,34,0,1,5,7] ?_;refine ao ?_;refine' ae.hf 3 [(6,.int .i64 (b':Int)),(8,.int .i64 (d:Int))] ?adE ?aeN;case adE=>
     refine If (fun yn=>?_) fun yn=>?_
     ·refine rg ?_;refine U V.ay ?_;refine U V.aY ?_;refine al ?_;refine a3 ?_;refine'⟨⟨_,rfl,⟨?gk,?nD,rfl,rfl,rfl,rfl,trivial⟩⟩,bx _,rfl⟩;case gk=>exact aa some (aa (Value.int .i64) I)
      case nD=>exact aa some (aa (Value.int .i64) I)
     ·refine ao ?_;refine ae.skip ?_;refine'⟨⟨_,rfl,⟨?gk,?nD,rfl,rfl,rfl,rfl,trivial⟩⟩,bx _,rfl⟩;case gk=>exact aa some (aa (Value.int .i64) I)
      case nD=>exact aa some (aa (Value.int .i64) I)
    case aeN=>
     refine rg ?_;refine al ?_;refine U V.d' ?_;refine ll (hb Q g0) fun aq'=>?_;refine' W.step rfl (.of (LY rfl rfl rfl rfl rfl rfl (hb Q g0) (sZ Q g0) (fun i q=>by cases q) ?eW ?hm ?ab ?ei ?eh ?bf ?aD fun Sf QI ahA=>?_));case eW=>exact eW
     case hm=>exact(zL _ bZ).symm
     case ab=>exact zf
     case ei=>first|rfl|(simp;done)|(simp;omega)
     case eh=>first|rfl|exact A0 _
     case bf=>exact Nat.one_pos
     case aD=>exact(show out.length+1<=1000000 by omega)
     refine U V.au ?_;refine a3 ?_;have OD:gy 72 1 Sf (out++[d]).length (b7 .u32 (out++[d])) QI:=by
        rw[y4,eS];exact ahA
     have bD:i+1<=(ai x).length/\(out++[d]).length=i+1/\b'<2/\dS (out++[d])/\aN ((ai x).take (i+1))+1000000000 ^ (i+1)*b'=aN (out++[d])+aN ((ai y).take (i+1))/\gy 72 1 Sf (out++[d]).length (b7 .u32 (out++[d])) QI:=
        ⟨I,by rw[eS,hz];rfl,JX,Bh cc fun z aL=>by rw[zK.1 aL];exact aq,aet hz az (by rw[aX];exact oI),OD⟩
     refine rg ?_;refine U V.ay ?_;refine U V.aY ?_;refine U V.au ?_;refine a3 ?_;refine fl ⟨i+1,b',out++[d],Sf,QI⟩ ?_ (hm:=zM _ _);exact bD
  ·obtain rfl:i=(ai x).length:=I
   have WE:=aes eM cc hz az aJ;refine ao ?_;refine ae.exit ?_;refine rg ?_;refine U V.ay ?_;refine' W.step rfl (Exec.call rfl rfl rfl rfl rfl rfl rfl (cj:=bZ) (eB:=[]) (.of_eq (iU bZ)) trivial (apf eW cc I) ?_);rintro v' m' ah hle ⟨rfl,rfl,n2⟩;rw[WE] at n2;refine U V.au ?_;refine aA ?_;refine ae.ret ?_;refine'⟨.inr rfl,rfl,_,_,.tmp rfl .nil,bx _,⟨rfl,by rw[iU];exact n2⟩⟩
end
theorem ak'{V c i j p R Y q eb T YB:Nat}(cB:T=c+eb+p*q)(h:V+1000000000 ^ (i+j)*c=R+1000000000 ^ i*(p*Y))(ag:YB+1000000000 ^ (i+j)*eb=V+1000000000 ^ (i+j)*(T % 1000000000)):YB+1000000000 ^ (i+(j+1))*(T / 1000000000)=R+1000000000 ^ i*(p*(Y+1000000000 ^ j*q)):=by
 have e:1000000000 ^ (i+j)*T=1000000000 ^ (i+j)*(T % 1000000000)+1000000000 ^ (i+(j+1))*(T / 1000000000):=by
  conv=>lhs;rw[<-yb T 1000000000]
  rw[cS,<-B8 i j 1,fC,fi]
 have aW:1000000000 ^ (i+j)*T=1000000000 ^ (i+j)*c+1000000000 ^ (i+j)*eb+1000000000 ^ (i+j)*(p*q):=by rw[cB,cS,cS]
 have cw:1000000000 ^ i*(p*(Y+1000000000 ^ j*q))=1000000000 ^ i*(p*Y)+1000000000 ^ (i+j)*(p*q):=by
  rw[cS,cS,oB,fi,qX p]
 omega
theorem Zz{l:List Nat}{i n v:Nat}(h:∀j z:Nat,n<=j->l[j]?=some z->z=0)(ar:i<n):∀j z:Nat,n<=j->(l.set i v)[j]?=some z->z=0:=fun j z ad af=>by
 rw[abm I] at af;exact h j z ad af
theorem KN{n:Nat}(h:n<1000000):n<cQ:=zR h bC
section
variable {Q:dD Tryz.prog}{g0:Nat}{J:an}
theorem uh{v w:Value}{x y:Nat}(ad:cM J v x)(af:cM J w y)(mD:(ai x).length<=100000)(n6:(ai y).length<=100000):Fn (a1 Q g0) 87 [v,w] [] J (pb J (x*y)):=by
 have ad:cR .u32 J v (ai x):=ad;have af:cR .u32 J w (ai y):=af;obtain⟨bQ,bH,rfl⟩:=ad.form;obtain⟨bL,bM,rfl⟩:=af.form;refine Fn.cr (cu Tryz.func87) rfl rfl fun H=>?_;refine rg ?_;refine U V.au ?_;refine a2 ?_;refine al ?_;refine U V.aY ?_;refine' W.step rfl (.of (qN rfl rfl rfl rfl rfl (hb Q g0) ?aO ?ad ?af fun I3=>?_));case aO=>exact bz
 case ad=>exact bz
 case af=>exact bz
 refine U V.au ?_;refine a3 ?_;rw[show(((ai x).length:Int)+(ai y).length).toNat=(ai x).length+(ai y).length by omega,zero_num];refine rg ?_;refine U V.au ?_;refine aA ?_;refine ae.block ?_;refine' ae.dO (l':=[(6,.int .i64 ((0):Int)),(0,_),(1,_),(5,_)]) ⟨?j4,rfl,rfl,rfl,trivial⟩ (bx _) ?_;case j4=>first|exact bg|exact aa some (aa (Value.int .u64) I)|exact aa some (aa (Value.int .u32) I)|exact aa some (aa (Value.int .i64) I)
 refine ao ?_;refine' ae.e2 (fun(a6:Nat×(List Nat))=>match a6 with|(i,out)=>⟨[(6,.int .i64 (i:Int))],[eO .u32 72 I3 out],J,i<=(ai x).length/\out.length=(ai x).length+(ai y).length/\dS out/\(∀j z:Nat,i+(ai y).length<=j->out[j]?=some z->z=0)/\aN out=aN ((ai x).take i)*y,(ai x).length -i⟩) ⟨0,List.replicate ((ai x).length+(ai y).length) 0⟩ ?ag ?bD
 case ag=>exact⟨ep _,mT,DO,fun j z _ aL=>SW (jS aL),by rw[aav,fh];show 0=0*y;omega⟩
 case bD=>
  rintro⟨i,out⟩ hinv;try simp only at hinv
  obtain⟨ar,hz,cc,aL,az⟩:=hinv;refine rg ?_;refine al ?_;refine U V.bb ?_;refine aA ?_;refine If (fun kE=>?_) fun kE=>?_
  ·obtain⟨a,o,bN,e,rfl,hy,l4⟩:=ad.at I;obtain⟨p,ap,ha⟩:=l4 i I;have b0:=pJ (hB x) ap;refine dW ?_;refine ao ?_;refine ae.block ?_;refine rg ?_;refine U V.au ?_;refine a2 ?_;refine U V.au ?_;refine aA ?_;refine ae.block ?_;refine' ae.dO (l':=[(8,.int .i64 ((0):Int)),(7,.int .u64 ((0):Int)),(0,_),(1,_),(5,_),(6,_)]) ⟨?l8,?kk,rfl,rfl,rfl,rfl,trivial⟩ (bx _) ?_;case l8=>first|exact bg|exact aa some (aa (Value.int .u64) I)|exact aa some (aa (Value.int .u32) I)|exact aa some (aa (Value.int .i64) I)
   case kk=>first|exact bg|exact aa some (aa (Value.int .u64) I)|exact aa some (aa (Value.int .u32) I)|exact aa some (aa (Value.int .i64) I)
   refine ao ?_;refine' ae.e2 (fun(a6:Nat×Nat×(List Nat))=>match a6 with|(j,kX,mo)=>⟨[(8,.int .i64 (j:Int)),(7,.int .u64 (kX:Int))],[eO .u32 72 I3 mo],J,j<=(ai y).length/\kX<1000000000/\mo.length=(ai x).length+(ai y).length/\dS mo/\(∀j z:Nat,i+(ai y).length<=j->mo[j]?=some z->z=0)/\aN mo+1000000000 ^ (i+j)*kX=aN ((ai x).take i)*y+1000000000 ^ i*(p*aN ((ai y).take j)),(ai y).length -j⟩) ⟨0,0,out⟩ ?ag ?bD
   case ag=>exact⟨ep _,by decide,hz,cc,aL,by rw[fh];show _=_+1000000000 ^ i*(p*0);rw[az,jk,jk,jk]⟩
   case bD=>
    rintro⟨j,kX,mo⟩ hinv;try simp only at hinv
    obtain⟨bf,VD,V7,AH,gD,AP⟩:=hinv;refine rg ?_;refine al ?_;refine U V.bb ?_;refine aA ?_;refine If (fun z1=>?_) fun z1=>?_
    ·obtain⟨bV,o',yp,b3,rfl,wJ,PU⟩:=af.at I;obtain⟨q,bS,nz⟩:=PU j I;have dN:=pJ (hB y) bS;obtain⟨eb,hold⟩:∃eb,mo[i+j]?=some eb:=⟨_,eE I⟩;have gl:=pJ AH hold;have hA:nth (b7 .u32 mo) (0+((i:Int)+(j:Int)).toNat*1)=some (.int .u32 (eb:Int)):=oV hold I;have oO:p*q<=999999999*999999999:=r1 I I;obtain⟨s,ag⟩:∃s,s=kX+eb+p*q:=⟨_,rfl⟩;have PG:(kX:Int)+(eb:Int)+(p:Int)*(q:Int)=(s:Int):=by rw[ag,uz,uz,gM]
     refine dW ?_;refine ao ?_;refine ae.block ?_;refine ao ?_;refine ae.draw rfl (by kernel_rfl) (a':=[.val 0,.val 1,.val 2,.val 3,.val 4,.val 5,.val 6,.val 7,.val 8,.val 9,.val 10,.val 11,.val 12,.val 13,.val 14,.val 15,.val 16,.val 17,.val 18,.val 19,.val 20,.bR 21]) (by kernel_rfl) ?_;refine eg ?_;refine aT rfl V.aY ?_;refine aT rfl V.bh ?_;refine aT rfl V.cg ?_;refine aT rfl V.d' ?_;refine aT rfl V.aY ?_;refine eg ?_;refine aT rfl V.bh ?_;refine aT rfl V.cg ?_;refine aT rfl V.d' ?_;refine eg ?_;refine aT rfl V.bh ?_;refine aT rfl V.cg ?_;refine aT rfl V.d' ?_;refine aT rfl V.aY ?_;refine aT rfl V.aY ?_;refine zD rfl V.au ?_;refine bp.nil ?_;rw[PG];refine rg ?_;refine al ?_;refine U V.aY ?_;refine U V.ay ?_;refine U V.hn ?_;rw[show((s:Int).tmod 1000000000)=((s % 1000000000:Nat):Int) from(Iz s 1000000000).symm];refine U V.d' ?_;refine U V.bh ?_;refine' W.step rfl (.of (ia rfl rfl rfl rfl (hh rfl) rfl rfl rfl ?ad ?ag ?ap ?_));case ap=>repeat first|exact .head _ _ _ _|apply dh.tail|apply dh.app
     case ag=>exact k8 (l:=mo) (x:=s % 1000000000) (i+j) I I
     case ad=>first|rfl|assumption
     refine a2 ?_;refine U V.ay ?_;refine U V.hn ?_;refine U V.au ?_;refine a3 ?_;rw[show((s:Int).tdiv 1000000000)=((s / 1000000000:Nat):Int) from(B1 s 1000000000).symm,show IntKind.u64.wrap ((s / 1000000000:Nat):Int)=((s / 1000000000:Nat):Int) from wrap_u64 I I];have WH:=ak' (p:=p) (R:=aN ((ai x).take i)*y) ag AP (aat (y:=s % 1000000000) hold);rw[<-l7 bS] at WH;have ai8:j+1<=(ai y).length/\s / 1000000000<1000000000/\(mo.set (i+j) (s % 1000000000)).length=(ai x).length+(ai y).length/\dS (mo.set (i+j) (s % 1000000000))/\(∀k z:Nat,i+(ai y).length<=k->(mo.set (i+j) (s % 1000000000))[k]?=some z->z=0)/\aN (mo.set (i+j) (s % 1000000000))+1000000000 ^ (i+(j+1))*(s / 1000000000)=aN ((ai x).take i)*y+1000000000 ^ i*(p*aN ((ai y).take (j+1))):=⟨I,I,by rw[hr];exact V7,y6 AH (fJ _ bC),Zz gD I,WH⟩;refine rg ?_;refine U V.ay ?_;refine U V.aY ?_;refine U V.au ?_;refine a3 ?_;refine fl ⟨j+1,s / 1000000000,mo.set (i+j) (s % 1000000000)⟩ ?_;exact ai8
    ·obtain rfl:j=(ai y).length:=I
     obtain⟨eb,hold⟩:∃eb,mo[i+(ai y).length]?=some eb:=⟨_,eE I⟩;obtain rfl:=gD _ _ (bX _) hold;have bD:i+1<=(ai x).length/\(mo.set (i+(ai y).length) kX).length=(ai x).length+(ai y).length/\dS (mo.set (i+(ai y).length) kX)/\(∀k z:Nat,i+1+(ai y).length<=k->(mo.set (i+(ai y).length) kX)[k]?=some z->z=0)/\aN (mo.set (i+(ai y).length) kX)=aN ((ai x).take (i+1))*y:=⟨I,by rw[hr];exact V7,y6 AH VD,Zz (fun k z a7 a0=>gD k z I a0) I,by
      have a7:=aat (y:=kX) hold;rw[D9 (bX _),e5] at AP;rw[l7 ap,c3,fi];omega⟩
     refine ao ?_;refine ae.exit ?_;refine rg ?_;refine al ?_;refine U V.aY ?_;refine U V.ay ?_;refine U V.d' ?_;refine U V.bh ?_;refine' W.step rfl (.of (ia rfl rfl rfl rfl (hh rfl) rfl rfl rfl ?ad ?ag ?ap ?_));case ap=>repeat first|exact .head _ _ _ _|apply dh.tail|apply dh.app
     case ag=>exact k8 (l:=mo) (x:=kX) (i+(ai y).length) I I
     case ad=>first|rfl|assumption
     refine a2 ?_;refine U V.ay ?_;refine U V.aY ?_;refine U V.au ?_;refine a3 ?_;refine fl ⟨i+1,mo.set (i+(ai y).length) kX⟩ ?_;exact bD
  ·obtain rfl:i=(ai x).length:=I
   rw[D9 (bX _),e5] at az;have ax:∀ah,ah I3=some (b7 .u32 out,72)->fP ah 72 1 (.slice (some ⟨I3,0,none⟩) ((ai x).length+(ai y).length) ((ai x).length+(ai y).length)) out.length (b7 .u32 out):=fun ah wJ=>by
    rw[<-hz];exact .row wJ (by rw[hi,gT];exact dd (by rw[oU];exact bX _)) (by rw[oU,gT]) (fun _=>⟨bX _,KN I⟩) (fun q=>absurd q (ED (KN I)))
   refine ao ?_;refine ae.exit ?_;refine rg ?_;refine U V.ay ?_;refine W.et rfl fun aK sj=>?_;refine bN (G:=HZ (l:=out) (ax _ sj) cc I) (h:=?_);rintro v' m' ah hle ⟨rfl,rfl,bB⟩;rw[az] at bB;refine U V.au ?_;refine aA ?_;refine ae.ret ?_;refine'⟨.inr rfl,rfl,_,[],.tmp rfl .nil,br _,⟨aK,rfl,bB⟩⟩
end
end
end Go.Opn
namespace Go.Opn
noncomputable section
theorem aeA{A D l:Nat}(cy:0<D):(l+1000000000*A) / D=(l+1000000000*(A % D)) / D+1000000000*(A / D)/\(l+1000000000*A) % D=(l+1000000000*(A % D)) % D:=by
 have e:l+1000000000*A=(l+1000000000*(A % D))+D*(1000000000*(A / D)):=by
  conv=>lhs;rw[<-yb A D]
  rw[cS,<-B8,qX 1000000000 D]
 rw[e];exact⟨Tb _ _ cy,Nat.add_mul_mod_self_left _ _ _⟩
theorem aez{D l c:Nat}(aD:l<1000000000)(aJ:c<D):(l+1000000000*c) / D<1000000000:=by
 rw[mV I];omega
theorem ZO(l:List Nat)(i:Nat):aN l=aN (l.take i)+1000000000 ^ i*aN (l.drop i):=by
 rcases iK l.length i with h|h
 ·rw[dd I,tb I];rfl
 ·exact zv l i h
theorem aoW{l:List Nat}(h:dS l)(i:Nat):aN (l.take i)<1000000000 ^ i:=by
 have ad:=k' (vF (i:=i) h);exact iJ ad (my bC (by rw[dY];omega))
theorem O2{V i:Nat}:aN ((ai V).drop i)=V / 1000000000 ^ i:=by
 have ad:=ZO (ai V) i;rw[e5] at ad;have af:=aoW (hB V) i;have ap:0<1000000000 ^ i:=uI bC;have:V / 1000000000 ^ i=(aN ((ai V).take i)+1000000000 ^ i*aN ((ai V).drop i)) / 1000000000 ^ i:=by rw[<-ad]
 rw[this,Tb _ _ ap,rY af,j7]
theorem Z'{Y n T:Nat}(aE:(ai Y)[n]?=some T):T*1000000000 ^ n<=Y:=by
 have ad:=ZO (ai Y) n;rw[e5,vP aE,cS] at ad;rw[dz];omega
theorem afk{V Y n T:Nat}(aE:(ai Y)[n]?=some T)(cB:0<T)(jX:V<1000000000*Y):V / Y<=Nat.min (aN ((ai V).drop n) / T) 999999999:=by
 have kJ:0<Y:=by
  have ad:=Z' aE;have af:0<T*1000000000 ^ n:=iW cB (uI bC);omega
 have ad:V / Y<1000000000:=by rw[mV kJ];exact jX
 refine Nat.le_min.2 ⟨?_,I⟩;rw[O2,IU cB,IU (uI bC),fi];exact cY (hs _ (Z' aE)) (Nat.div_mul_le_self V Y)
theorem VW{V Y n:Nat}(aE:(ai Y).length=n+1)(jX:V<1000000000*Y)(j:Nat)(bf:n<=j):aN ((ai V).drop j)<1000000000000000000:=by
 have ad:=oi (x:=Y) (k:=n+1) I;rw[O2];have ap:0<1000000000 ^ j:=uI bC;rw[mV ap];have af:1000000000*Y<1000000000 ^ (n+2):=by rw[fC 1000000000 (n+1),dz];exact B9 ad bC
 have aV:1000000000 ^ (n+2)=1000000000000000000*1000000000 ^ n:=by rw[oB,dz]
 have bq:1000000000 ^ n<=1000000000 ^ j:=my bC bf;omega
theorem ae5{Y k m:Nat}{l:List Nat}(aD:dS l)(hk:l.length -k<=m)(aE:(ai Y).length=m+1):aN (l.drop k)<Y:=by
 have ad:=k' (Ld (i:=k) aD);have af:=Sa (z5 Y) (fun q=>by rw[q] at aE;cases aE);rw[e5,aE,ld] at af;have aV:1000000000 ^ (l.drop k).length<=1000000000 ^ m:=my bC (by rw[lQ];exact hk);omega
theorem Up:∀{k:Nat} {l:List Nat},j6 l->j6 (l.drop k)
 |0,_,h=>h
 |k+1,[],h=>by rw[List.drop_nil];exact h
 |k+1,x::l,h=>by rw[SV];exact Up (Nd h)
theorem drop_set{l:List Nat}{i v:Nat}(h:i<l.length):(l.set i v).drop i=v::l.drop (i+1):=by
 rw[ae4 (l:=l.set i v) (x:=v) (by rw[mS,bj rfl,bj h]),B5 I]
where
 ae4 {l:List Nat} {i x:Nat} (h:l[i]?=some x):l.drop i=x::l.drop (i+1):=by
  have ar:=(gS.1 h).1;have ab:l[i]=x:=by rw[eE ar] at h;injection h
  rw[IE ar,ab]
theorem Y2{L d:List Nat}{i a Y R V:Nat}(kJ:0<Y)(aI:L[i]?=some a)(aq:i<d.length)(c0:R=aN (L.drop (i+1)) % Y)(gq:aN (d.drop (i+1))=aN (L.drop (i+1)) / Y)(jX:V=a+1000000000*R):aN ((d.set i (V / Y)).drop i)=aN (L.drop i) / Y/\V % Y=aN (L.drop i) % Y:=by
 have h:=aeA (A:=aN (L.drop (i+1))) (l:=a) kJ;rw[drop_set aq,vP aI];show V / Y+1000000000*aN (d.drop (i+1))=_/\_;rw[gq,h.1,h.2,jX,c0];exact⟨rfl,rfl⟩
end
end Go.Opn

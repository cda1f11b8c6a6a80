/- A part of the proof of TableClose. -/
import Derived.Test.YtpahonhejmlnpaaGreatDoorCbh
set_option maxRecDepth 100000
set_option maxHeartbeats 8000000
set_option linter.unusedVariables false
set_option linter.unusedSimpArgs false
namespace Go.Opn
noncomputable section
open Go.Cre Go.RowKit Go.Proofs
theorem ET(l:List Nat)(i:Nat):bs (l.take (i+1))=bs (l.take i)+1000000000 ^ i*l.getD i 0:=by
 by_cases h:i<l.length
 ·rw[BY (eO h),js,eO h];rfl
 ·rw[js,qT (by omega),ib (by omega),ib (by omega)];rfl
theorem RH(l:List Nat)(x:Nat):bs (l++[x])=bs l+1000000000 ^ l.length*x:=by rw[BW,EU]
theorem GO{l:List Nat}(h:fN l)(i:Nat):l.getD i 0<1000000000:=by
 rw[js];rcases q:l[i]? with _|x
 ·decide
 ·exact qs h q
theorem yV{l:List Nat}{i:Nat}(h:l.length<=i):bs (l.take i)=bs l:=by rw[ib h]
theorem adN{x y i c:Nat}{out:List Nat}(ag:fN out)(h:bs out+1000000000 ^ i*c=bs ((ap x).take i)+bs ((ap y).take i))(aa:(ap x).length<=i)(ab:(ap y).length<=i)(aL:c=0)(aw:∀z,out.getLast?=some z->z≠0):out=ap (x+y):=by
 rw[aL,Cq,nT,yV aa,yV ab,g5,g5] at h;rw[<-h];exact CK ⟨ag,aw⟩
theorem adQ{x y i c:Nat}{out:List Nat}(aA:out.length=i)(h:bs out+1000000000 ^ i*c=bs ((ap x).take i)+bs ((ap y).take i)){s:Nat}(af:s=c+(ap x).getD i 0+(ap y).getD i 0):bs (out++[s % 1000000000])+1000000000 ^ (i+1)*(s / 1000000000)=bs ((ap x).take (i+1))+bs ((ap y).take (i+1)):=by
 rw[RH,ET,ET,aA];have e:1000000000 ^ i*s=1000000000 ^ i*(s % 1000000000)+1000000000 ^ (i+1)*(s / 1000000000):=by
  conv=>lhs;rw[<-Fv s 1000000000]
  rw[lX,mu,nU]
 have aZ:1000000000 ^ i*s=1000000000 ^ i*c+1000000000 ^ i*(ap x).getD i 0+1000000000 ^ i*(ap y).getD i 0:=by rw[af,lX,lX]
 omega
theorem adO{x y i c s:Nat}(af:s=c+(ap x).getD i 0+(ap y).getD i 0)(p4:i<(ap x).length\/i<(ap y).length\/0<c)(aa:(ap x).length<=i+1)(ab:(ap y).length<=i+1)(aL:s / 1000000000=0):s % 1000000000≠0:=by
 have hm:s % 1000000000=s:=se (by omega);rw[hm];have U:∀z:Nat,i<(ap z).length->(ap z).length<=i+1->(ap z).getD i 0≠0:=fun z p q=>by
  have e:(ap z).length -1=i:=by omega
  refine A4 z _ ?_;rw[Cm,e,js,eO p];rfl
 rcases p4 with q|q|q
 ·have:=U x q aa;omega
 ·have:=U y q ab;omega
 ·omega
theorem rl{l:List Nat}{i x:Nat}(h:l[i]?=some x):l.getD i 0=x:=by rw[js,h];rfl
theorem tS{l:List Nat}{i:Nat}(h:l.length<=i):l.getD i 0=0:=by rw[js,qT h];rfl
theorem PR:fN []:=fun z a0=>(by cases a0)
theorem ZX:∀z:Nat,([]:List Nat).getLast?=some z->z≠0:=fun z a0=>(by cases a0)
theorem W.ab7{K:dG}{B:dt}{m dV ba:aU}{J:an}{ops rest:List Oper}{bm:Option (List PanicEntry)->b3->aU->an->Prop}{E:b3}{e:TypeId}{sz k:Nat}{v:Value}{cells:List Value}(h:Acc e sz v k cells ba)(hm:m=ba++dV)(hk:∀ae,J.le ae->ey ae e sz v k cells->W K B ops rest E dV ae bm):W K B ops rest E m J bm:=by
 subst hm;cases h with
 |nil=>exact hk J (an.le.refl _) .nil
 |ik a=>exact hk J (an.le.refl _) (.ik _ _ _ (by decide))
 |@opn a k cells rest z aA a0=>exact W.dB rfl fun aa ab=>hk _ aa (.row ab (by rw[kJ,ib (by omega)]) aA (fun q=>absurd rfl q) (fun _=>rfl))
 |@cap a k C cells full el aa ab aY bu=>exact W.dB rfl fun gI hK=>hk _ gI (.row hK ab (by rw[<-ab,gp,aa,g9 (lY _ aY)]) (fun _=>⟨aY,bu⟩) (fun q=>absurd q (zk bu)))
theorem fh.m0{K:dG}{B:dt}{m:aU}{J:an}{cB:Exit->b3->aU->an->Prop}{c:Code}{e:TypeId}{sz k:Nat}{v:Value}{cells:List Value}{ba dV:aU}{E:b3}(h:fh e sz v k cells ba)(hm:m.Perm (ba++dV))(hk:∀ae,J.le ae->ey ae e sz v k cells->ad K B c E dV ae cB):ad K B c E m J cB:=by
 rcases h with⟨h,_,_⟩|⟨a,full,rest,rfl,rfl,aY,bu,gI⟩
 ·exact Acc.m0 h hm hk
 ·refine ad.mY hm.symm ?_
  refine ad.iW (x:=(full,e)) rfl fun hle=>?_;exact hk _ hle (.row (an.hH _ _ _) (by rw[kJ];exact bu) (by rw[<-bu,gp];omega) (fun q=>absurd rfl q) (fun _=>rfl))
theorem ey.num{J:an}{e:TypeId}{k:IntKind}{n:Nat}{v:Value}{l:List Nat}(h:ey J e 1 v n (ca k l)):de k J v l:=by
 obtain⟨b,c,_,aa,_⟩:=h.inv;rw[s8,iZ] at aa;subst aa;exact⟨e,h⟩
section
variable {Q:ek Tryz.prog}{g0:Nat}{J:an}
theorem ab2{v w:Value}{x y:Nat}(aa:dW J v x)(ab:dW J w y)(fR:(ap x).length<=1000)(fZ:(ap y).length<=1000):Fn (aO Q g0) 28 [v,w] [] J (kp J (x+y)):=by
 have aa:de .u32 J v (ap x):=aa;have ab:de .u32 J w (ap y):=ab;obtain⟨br,bn,rfl⟩:=aa.form;obtain⟨bN,bQ,rfl⟩:=ab.form;refine Fn.ck (ch Tryz.func28) rfl rfl fun H=>?_;refine rg ?_;refine I V.aI ?_;refine bb ?_;refine I V.aI ?_;refine bb ?_;refine I V.aI ?_;refine bb ?_;refine I V.aI ?_;refine aD ?_;refine ad.block ?_;refine' ad.eH (l':=[(7,.int .i64 ((0):Int)),(6,.int .u32 ((0):Int)),(5,(.slice none 0 0)),(0,_),(1,_)]) ⟨?k3,?mi,?gh,rfl,rfl,trivial⟩ (cd _) ?_;case k3=>first|exact cq|exact aj some (aj (Value.int .u64) (by omega))|exact aj some (aj (Value.int .i64) (by omega))
 case mi=>first|exact cq|exact aj some (aj (Value.int .u64) (by omega))|exact aj some (aj (Value.int .i64) (by omega))
 case gh=>first|exact cq|exact aj some (aj (Value.int .u64) (by omega))|exact aj some (aj (Value.int .i64) (by omega))
 refine aG ?_;refine' ad.b0 (fun(cG:Nat×Nat×(List Nat)×Value×aU)=>match cG with|(i,c,out,gh,ba)=>⟨[(7,.int .i64 (i:Int)),(6,.int .u32 (c:Int)),(5,gh)],ba,J,i<=1001/\out.length=i/\c<2/\fN out/\bs out+1000000000 ^ i*c=bs ((ap x).take i)+bs ((ap y).take i)/\(((ap x).length<=i/\(ap y).length<=i/\c=0)->∀z,out.getLast?=some z->z≠0)/\(i=1001->c=0)/\Acc 40 1 gh out.length (ca .u32 out) ba,1001 -i⟩) ⟨0,0,[],.slice none 0 0,[]⟩ ?af ?bT
 case af=>exact⟨fB _,rfl,by decide,PR,by rw[nS,nS];rfl,fun _=>ZX,fun q=>absurd q (by decide),.nil⟩
 case bT=>
  rintro⟨i,c,out,gh,ba⟩ hinv;try simp only at hinv
  obtain⟨ar,hM,aL,hN,ay,X6,agm,dr⟩:=hinv;refine mj [0,1,5,6,7] ?_;refine aG ?_;refine' ad.oU 0 [(21,.bool (decide ((i<(ap x).length\/i<(ap y).length\/0<c))))] ?Gl ?Gr;case Gl=>
   refine ad.region ?_;refine aH ?_;refine I V.a' ?_;refine I V.aJ ?_;refine gz 12 (fun GV=>?_) fun GV=>?_
   ·refine c7 ?_;refine c7 ?_;refine c7 ?_;refine c7 ?_;refine I V.bo ?_;refine I V.aJ ?_;refine c7 ?_;refine c7 ?_;refine I V.bo ?_;refine bR ?_;refine'⟨⟨_,rfl,⟨?yx,rfl,rfl,rfl,rfl,rfl,trivial⟩⟩,cd _,rfl⟩;case yx=>first|exact rc rfl (by omega)|exact ra rfl (by omega)|exact rb rfl (by omega)|exact q' rfl (by omega)
   ·refine bM V.aJ ?_;refine bM V.aJ ?_;refine bM V.gL ?_;refine bM V.a' ?_;refine I V.bo ?_;refine I V.aJ ?_;refine gz 18 (fun Wr=>?_) fun Wr=>?_
    ·refine c7 ?_;refine c7 ?_;refine I V.bo ?_;refine bR ?_;refine'⟨⟨_,rfl,⟨?yx,rfl,rfl,rfl,rfl,rfl,trivial⟩⟩,cd _,rfl⟩;case yx=>first|exact rc rfl (by omega)|exact ra rfl (by omega)|exact rb rfl (by omega)|exact q' rfl (by omega)
    ·refine bM V.aJ ?_;refine bM V.a' ?_;refine I V.bo ?_;refine bR ?_;refine'⟨⟨_,rfl,⟨?yx,rfl,rfl,rfl,rfl,rfl,trivial⟩⟩,cd _,rfl⟩;case yx=>first|exact rc rfl (by omega)|exact ra rfl (by omega)|exact rb rfl (by omega)|exact q' rfl (by omega)
  case Gr=>
   refine aG ?_;refine If (fun nn=>?_) fun nn=>?_
   ·obtain⟨s,af⟩:∃s,s=c+(ap x).getD i 0+(ap y).getD i 0:=⟨_,rfl⟩;have aR:=GO (kj x) i;have aN:=GO (kj y) i;refine e4 ?_;refine aG ?_;refine ad.block ?_;refine rg ?_;refine aH ?_;refine I V.a' ?_;refine bR ?_;refine mj [6,27,0,1,5,7] ?_;refine aG ?_;refine' ad.oU 2 [(6,.int .u32 ((c+(ap x).getD i 0:Nat):Int))] ?T' ?UY;case T'=>
     refine If (fun kt=>?_) fun kt=>?_
     ·obtain⟨a,o,b4,e,rfl,fu,lF⟩:=aa.at (by omega);obtain⟨p,ao,h3⟩:=lF i (by omega);have bG:=rl ao;refine rg ?_;refine aH ?_;refine I V.bj ?_;refine I V.c2 ?_;refine I V.bW ?_;refine I V.aI ?_;refine bR ?_;refine'⟨⟨_,rfl,⟨?ef,rfl,rfl,rfl,rfl,trivial⟩⟩,cd _,rfl⟩;case ef=>first|exact aj some (aj (Value.int .u32) (by rw[rl ao];omega))|exact aj some (aj (Value.int .u32) (by rw[tS (l:=ap x) (by omega)];omega))
     ·refine aG ?_;refine ad.skip ?_;refine'⟨⟨_,rfl,⟨?ef,rfl,rfl,rfl,rfl,trivial⟩⟩,cd _,rfl⟩;case ef=>first|exact aj some (aj (Value.int .u32) (by rw[rl ao];omega))|exact aj some (aj (Value.int .u32) (by rw[tS (l:=ap x) (by omega)];omega))
    case UY=>
     refine rg ?_;refine aH ?_;refine I V.a' ?_;refine bR ?_;refine mj [6,37,0,1,5,7] ?_;refine aG ?_;refine' ad.oU 2 [(6,.int .u32 (s:Int))] ?Ub ?U0;case Ub=>
      refine If (fun F7=>?_) fun F7=>?_
      ·obtain⟨a,o,b4,e,rfl,fu,lF⟩:=ab.at (by omega);obtain⟨p,ao,h3⟩:=lF i (by omega);have bG:=rl ao;refine rg ?_;refine aH ?_;refine I V.bj ?_;refine I V.c2 ?_;refine I V.bW ?_;refine I V.aI ?_;refine bR ?_;refine'⟨⟨_,rfl,⟨?ef,rfl,rfl,rfl,rfl,trivial⟩⟩,cd _,rfl⟩;case ef=>first|exact aj some (aj (Value.int .u32) (by rw[af,rl ao];omega))|exact aj some (aj (Value.int .u32) (by rw[af,tS (l:=ap y) (by omega)];omega))
      ·refine aG ?_;refine ad.skip ?_;refine'⟨⟨_,rfl,⟨?ef,rfl,rfl,rfl,rfl,trivial⟩⟩,cd _,rfl⟩;case ef=>first|exact aj some (aj (Value.int .u32) (by rw[af,rl ao];omega))|exact aj some (aj (Value.int .u32) (by rw[af,tS (l:=ap y) (by omega)];omega))
     case U0=>
      refine rg ?_;refine aH ?_;refine I V.ha ?_;rw[show((s:Int).tmod 1000000000)=((s % 1000000000:Nat):Int) from(uV s 1000000000).symm];refine ja (iy Q g0) fun afJ=>?_;refine' W.step rfl (.of (nL rfl rfl rfl rfl rfl rfl (iy Q g0) (tm Q g0) (fun i q=>by cases q) ?dr ?hm ?U ?dI ?dP ?aA fun Kj IW Xj ahn=>?_));case dr=>exact dr
      case hm=>exact(tu _ ba).symm
      case U=>exact qz
      case dI=>first|rfl|(simp;done)|(simp;omega)
      case dP=>first|rfl|exact rM _
      case aA=>exact(show out.length+1<=1000000 by omega)
      refine I V.aI ?_;refine bb ?_;refine I V.aJ ?_;refine I V.ha ?_;refine I V.aI ?_;refine bR ?_;rw[show((s:Int).tdiv 1000000000)=((s / 1000000000:Nat):Int) from(oJ s 1000000000).symm,show IntKind.u32.wrap ((s / 1000000000:Nat):Int)=((s / 1000000000:Nat):Int) from wrap_u32 (by omega) (by omega)];have Hi:Acc 40 1 Kj (out++[s % 1000000000]).length (ca .u32 (out++[s % 1000000000])) IW:=by
       rw[wh,g1];exact Xj
      have bT:i+1<=1001/\(out++[s % 1000000000]).length=i+1/\s / 1000000000<2/\fN (out++[s % 1000000000])/\bs (out++[s % 1000000000])+1000000000 ^ (i+1)*(s / 1000000000)=bs ((ap x).take (i+1))+bs ((ap y).take (i+1))/\(((ap x).length<=i+1/\(ap y).length<=i+1/\s / 1000000000=0)->∀z,(out++[s % 1000000000]).getLast?=some z->z≠0)/\(i+1=1001->s / 1000000000=0)/\Acc 40 1 Kj (out++[s % 1000000000]).length (ca .u32 (out++[s % 1000000000])) IW:=by
       refine⟨by omega,by rw[g1,hM];rfl,by omega,PQ hN fun z a0=>by rw[Fo.1 a0];exact oN _ (by decide),adQ hM ay af,fun⟨a9,a4,bJ⟩ z a0=>?_,fun q=>?_,Hi⟩
       ·rw[List.getLast?_append,List.getLast?_singleton] at a0
        injection a0 with a0
        rw[<-a0];exact adO af nn a9 a4 bJ
       ·have a9:=tS (l:=ap x) (i:=i) (by omega)
        have a4:=tS (l:=ap y) (i:=i) (by omega);omega
      refine rg ?_;refine I V.aJ ?_;refine I V.bW ?_;refine I V.aI ?_;refine bR ?_;refine gF ⟨i+1,s / 1000000000,out++[s % 1000000000],Kj,IW⟩ ?_ (hm:=nR _ _);exact bT
   ·refine Acc.m0 dr (.of_eq (jr ba).symm) fun bq a8 ak=>?_;have e:=adN (x:=x) (y:=y) hN ay (by omega) (by omega) (by omega) (X6 ⟨by omega,by omega,by omega⟩);rw[e] at ak;refine aG ?_;refine ad.exit ?_;refine rg ?_;refine aH ?_;refine aD ?_;refine ad.ret ?_;refine'⟨.inr rfl,rfl,_,[],.tmp rfl .nil,bZ _,⟨a8,rfl,ak⟩⟩
end
theorem US{x y i b b' d:Nat}{out:List Nat}(aA:out.length=i)(h:bs ((ap x).take i)+1000000000 ^ i*b=bs out+bs ((ap y).take i))(au:d+b+(ap y).getD i 0=(ap x).getD i 0+1000000000*b'):bs ((ap x).take (i+1))+1000000000 ^ (i+1)*b'=bs (out++[d])+bs ((ap y).take (i+1)):=by
 rw[RH,ET,ET,aA];have e:1000000000 ^ i*d+1000000000 ^ i*b+1000000000 ^ i*(ap y).getD i 0=1000000000 ^ i*(ap x).getD i 0+1000000000 ^ (i+1)*b':=by
  rw[mu,nU,<-lX,<-lX,<-lX,au]
 omega
theorem UR{x y b:Nat}{out:List Nat}(dT:y<=x)(hN:fN out)(aA:out.length=(ap x).length)(h:bs ((ap x).take (ap x).length)+1000000000 ^ (ap x).length*b=bs out+bs ((ap y).take (ap x).length))(ah:b<2):bs out=x -y:=by
 have hlen:(ap y).length<=(ap x).length:=by
  rcases hr (ap x).length (ap y).length with q|q
  ·have:=ur (x:=x) (c5 _)
   have aa:=RG (kj x) (CJ y) q;rw[g5,g5] at aa;omega
  ·exact q
 rw[yV (c5 _),yV hlen,g5,g5] at h;have ab:=wN hN;rw[aA] at ab;rcases(show b=0\/b=1 by omega) with rfl|rfl
 ·rw[Cq] at h;omega
 ·rw[iZ] at h;omega
section
variable {Q:ek Tryz.prog}{g0:Nat}{J:an}
theorem ad6{v:Value}{l:List Nat}{ba:aU}(h:fh 40 1 v l.length (ca .u32 l) ba)(ag:fN l)(aA:l.length<=1000):Fn (aO Q g0) 58 [v] ba J (fun u m' ae=>m'=ba/\J=ae/\fh 40 1 u (ap (bs l)).length (ca .u32 (ap (bs l))) ba):=by
 have XR:∃b c,v=.slice b l.length c:=by
  rcases h.form with⟨b,aR,aN,_⟩|⟨a,full,rest,aR,_⟩
  ·exact⟨_,_,by rw[aN];exact aR⟩
  ·exact⟨_,_,aR⟩
 obtain⟨b,c,rfl⟩:=XR;have kV:=h.row;refine Fn.ck (ch Tryz.func58) rfl rfl fun H=>?_;refine rg ?_;refine I V.aI ?_;refine aD ?_;refine ad.block ?_;refine' ad.eH (l':=[(0,.slice b (l.length) c)]) ⟨?w0,trivial⟩ (cd _) ?_;case w0=>first|exact cq|exact aj some (aj (Value.int .u64) (by omega))|exact aj some (aj (Value.int .i64) (by omega))
 refine aG ?_;refine' ad.mQ (α:=(Nat)) (fun(k:Nat)=>[(0,.slice b k c)]) (fun(k:Nat)=>k<=l.length/\∀j y,k<=j->l[j]?=some y->y=0) (fun(k:Nat)=>k) (l.length) ?af ?bT;case af=>exact⟨c5 _,fun j y aa ab=>by have:=(hq.1 ab).1;omega⟩
 case bT=>
  rintro k hinv;try simp only at hinv
  obtain⟨hk,a0⟩:=hinv;refine rg ?_;refine aH ?_;refine I V.a' ?_;refine I V.aJ ?_;refine gz 6 (fun j'=>?_) fun j'=>?_
  ·obtain⟨x,U⟩:∃x,l[k -1]?=some x:=⟨_,eO (by omega)⟩;obtain⟨a,full,rest,bh,rfl,hg,xS⟩:=kV (by omega);injection bh with bh _ dD
   subst bh;subst dD;have aw:nth full (0+((k:Int) -1).toNat*1)=some (.int .u32 (x:Int)):=by
    rw[I9 hg (by omega)];exact s9 U (by omega)
   refine bM V.aJ ?_;refine bM V.aJ ?_;refine bM V.gL ?_;refine bM V.bW ?_;refine bM V.bj ?_;refine bM V.cP ?_;refine bM V.a' ?_;refine I V.bo ?_;refine aD ?_;refine If (fun gQ=>?_) fun gQ=>?_
   ·refine aG ?_;refine ad.skip ?_;refine aG ?_;refine ad.block ?_;refine rg ?_;refine aH ?_;refine I V.bW ?_;refine' W.step rfl (Exec.val rfl rfl (Kb rfl rfl rfl (iy Q g0) ?hm ?aX ?aa) ?_);case hm=>repeat first|exact .head _|refine .tail _ ?_|refine d' _ ?_
    case aX=>exact bS
    case aa=>exact bS
    refine I V.aI ?_;refine bR ?_;rw[show((k:Int) -1).toNat=k -1 by omega];refine'⟨(k -1),_,?hinv,?hh,rfl,⟨?dV,trivial⟩,cd _,rfl⟩;case dV=>first|exact cq|exact aj some (aj (Value.int .u64) (by omega))|exact aj some (aj (Value.int .i64) (by omega))
    case hh=>exact bS
    case hinv=>
     exact⟨by omega,fun j y aa ab=>by
         by_cases q:k<=j
         ·exact a0 j y q ab
         ·obtain rfl:j=k -1:=by omega
          rw[U] at ab;injection ab with ab;omega⟩
   ·refine aG ?_;refine ad.exit ?_;refine rg ?_;refine aH ?_;refine aD ?_;refine ad.ret ?_;refine'⟨.inr rfl,rfl,_,_,.tmp rfl .nil,cd _,?_⟩;first
      |(have c:=gQ;exact⟨rfl,rfl,by
           rw[<-yR ag hk a0 fun y aa ab=>by rw[U] at ab;injection ab with ab;omega];rw[gp,g9 hk];obtain⟨_,_,_,bh,cb,n8⟩:=h.cut hk (by omega);injection bh with bh
           injection bh with bh
           injection bh with bh
           subst bh;have e:(ca IntKind.u32 l).take (k*1)=ca .u32 (l.take k):=by rw[iZ];unfold ca;rw[zh]
           rw[<-e];exact n8⟩)
      |exact⟨rfl,rfl,by
           have tY:k=0:=by omega
           subst tY;rw[<-yR ag hk a0 fun y aa ab=>by omega];rw[nS];rcases ly l.length with q|q
           ·have e:l=[]:=pH q
            subst e;exact h
           ·obtain⟨a,full,rest,bh,cb,n8⟩:=h.cut hk q
            injection bh with bh _ dD
            subst bh;subst dD;exact n8⟩
  ·refine c7 ?_;refine c7 ?_;refine c7 ?_;refine c7 ?_;refine c7 ?_;refine c7 ?_;refine c7 ?_;refine I V.bo ?_;refine aD ?_;refine ad.tJ rfl ?_;refine aG ?_;refine ad.exit ?_;refine rg ?_;refine aH ?_;refine aD ?_;refine ad.ret ?_;refine'⟨.inr rfl,rfl,_,_,.tmp rfl .nil,cd _,?_⟩;first
    |exact⟨rfl,rfl,by
          have tY:k=0:=by omega
          subst tY;rw[<-yR ag hk a0 fun y aa ab=>by omega];rw[nS];rcases ly l.length with q|q
          ·have e:l=[]:=pH q
           subst e;exact h
          ·obtain⟨a,full,rest,bh,cb,n8⟩:=h.cut hk q
           injection bh with bh _ dD
           subst bh;subst dD;exact n8⟩
theorem Pp{v w:Value}{x y:Nat}(aa:dW J v x)(ab:dW J w y)(dT:y<=x)(aA:(ap x).length<=1000)(fZ:(ap y).length<=1000):Fn (aO Q g0) 30 [v,w] [] J (fun u m' ae=>J=ae/\fh 40 1 u (ap (x -y)).length (ca .u32 (ap (x -y))) m'):=by
 have aa:de .u32 J v (ap x):=aa;have ab:de .u32 J w (ap y):=ab;obtain⟨br,bn,rfl⟩:=aa.form;obtain⟨bN,bQ,rfl⟩:=ab.form;refine Fn.ck (ch Tryz.func30) rfl rfl fun H=>?_;refine rg ?_;refine I V.aI ?_;refine bb ?_;refine I V.aI ?_;refine bb ?_;refine I V.aI ?_;refine bb ?_;refine I V.aI ?_;refine aD ?_;refine ad.block ?_;refine' ad.eH (l':=[(7,.int .i64 ((0):Int)),(6,.int .i64 ((0):Int)),(5,(.slice none 0 0)),(0,_),(1,_)]) ⟨?k3,?mi,?gh,rfl,rfl,trivial⟩ (cd _) ?_;case k3=>first|exact cq|exact aj some (aj (Value.int .u64) (by omega))|exact aj some (aj (Value.int .i64) (by omega))
 case mi=>first|exact cq|exact aj some (aj (Value.int .u64) (by omega))|exact aj some (aj (Value.int .i64) (by omega))
 case gh=>first|exact cq|exact aj some (aj (Value.int .u64) (by omega))|exact aj some (aj (Value.int .i64) (by omega))
 refine aG ?_;refine' ad.b0 (fun(cG:Nat×Nat×(List Nat)×Value×aU)=>match cG with|(i,b,out,gh,ba)=>⟨[(7,.int .i64 (i:Int)),(6,.int .i64 (b:Int)),(5,gh)],ba,J,i<=(ap x).length/\out.length=i/\b<2/\fN out/\bs ((ap x).take i)+1000000000 ^ i*b=bs out+bs ((ap y).take i)/\fh 40 1 gh out.length (ca .u32 out) ba,(ap x).length -i⟩) ⟨0,0,[],.slice none 0 0,[]⟩ ?af ?bT
 case af=>exact⟨fB _,rfl,by decide,PR,by rw[nS,nS];rfl,.inl ⟨.nil,E2,Ec⟩⟩
 case bT=>
  rintro⟨i,b,out,gh,ba⟩ hinv;try simp only at hinv
  obtain⟨ar,hM,aL,hN,ay,dr⟩:=hinv;refine rg ?_;refine aH ?_;refine I V.a' ?_;refine aD ?_;refine If (fun jb=>?_) fun jb=>?_
  ·obtain⟨a,o,b4,e,rfl,fu,lF⟩:=aa.at (by omega);obtain⟨p,ao,h3⟩:=lF i (by omega);have aR:=rl ao;have aN:=GO (kj y) i;have bG:=qs (kj x) ao;obtain⟨b',d,Ag,Dh,au⟩:∃b' d:Nat,d+b+(ap y).getD i 0=p+1000000000*b'/\b'<2/\d<1000000000:=by
    by_cases q:p<b+(ap y).getD i 0
    ·exact⟨1,p+1000000000 -b -(ap y).getD i 0,by omega,by decide,by omega⟩
    ·exact⟨0,p -b -(ap y).getD i 0,by omega,by decide,by omega⟩
   refine e4 ?_;refine aG ?_;refine ad.block ?_;refine rg ?_;refine aH ?_;refine I V.bj ?_;refine I V.c2 ?_;refine I V.gk ?_;refine I V.aJ ?_;refine I V.bW ?_;refine I V.aI ?_;refine bb ?_;refine aH ?_;refine I V.a' ?_;refine bR ?_;refine mj [8,25,0,1,5,7] ?_;refine aG ?_;refine' ad.oU 2 [(8,.int .i64 ((p:Int) -b -((ap y).getD i 0:Nat)))] ?Gf ?Gp;case Gf=>
    refine If (fun sq=>?_) fun sq=>?_
    ·obtain⟨bE,o',CH,bk,rfl,tT,It⟩:=ab.at (by omega);obtain⟨gg,qa,ag2⟩:=It i (by omega);have dd:=rl qa;have fm:=qs (kj y) qa;refine rg ?_;refine aH ?_;refine I V.bj ?_;refine I V.c2 ?_;refine I V.gk ?_;refine I V.bW ?_;refine I V.aI ?_;refine bR ?_;refine'⟨⟨_,rfl,⟨?nF,rfl,rfl,rfl,rfl,trivial⟩⟩,cd _,rfl⟩;case nF=>first|exact aj some (aj (Value.int .i64) (by have q:=rl qa;omega))|exact aj some (aj (Value.int .i64) (by have q:=tS (l:=ap y) (i:=i) (by omega);omega))
    ·refine aG ?_;refine ad.skip ?_;refine'⟨⟨_,rfl,⟨?nF,rfl,rfl,rfl,rfl,trivial⟩⟩,cd _,rfl⟩;case nF=>first|exact aj some (aj (Value.int .i64) (by have q:=rl qa;omega))|exact aj some (aj (Value.int .i64) (by have q:=tS (l:=ap y) (i:=i) (by omega);omega))
   case Gp=>
    refine rg ?_;refine I V.aI ?_;refine bb ?_;refine I V.aJ ?_;refine I V.a' ?_;refine bR ?_;refine mj [6,8,34,0,1,5,7] ?_;refine aG ?_;refine' ad.oU 3 [(6,.int .i64 (b':Int)),(8,.int .i64 (d:Int))] ?Ua ?UZ;case Ua=>
     refine If (fun vf=>?_) fun vf=>?_
     ·refine rg ?_;refine I V.aJ ?_;refine I V.bW ?_;refine aH ?_;refine bR ?_;refine'⟨⟨_,rfl,⟨?ef,?nF,rfl,rfl,rfl,rfl,trivial⟩⟩,cd _,rfl⟩;case ef=>exact aj some (aj (Value.int .i64) (by omega))
      case nF=>exact aj some (aj (Value.int .i64) (by omega))
     ·refine aG ?_;refine ad.skip ?_;refine'⟨⟨_,rfl,⟨?ef,?nF,rfl,rfl,rfl,rfl,trivial⟩⟩,cd _,rfl⟩;case ef=>exact aj some (aj (Value.int .i64) (by omega))
      case nF=>exact aj some (aj (Value.int .i64) (by omega))
    case UZ=>
     refine rg ?_;refine aH ?_;refine I V.gk ?_;refine ja (iy Q g0) fun afH=>?_;refine' W.step rfl (.of (R2 rfl rfl rfl rfl rfl rfl (iy Q g0) (tm Q g0) (fun i q=>by cases q) ?dr ?hm ?U ?dI ?dP ?a5 ?aA fun Ki IV Xh=>?_));case dr=>exact dr
     case hm=>exact(tu _ ba).symm
     case U=>exact qz
     case dI=>first|rfl|(simp;done)|(simp;omega)
     case dP=>first|rfl|exact rM _
     case a5=>exact Nat.one_pos
     case aA=>exact(show out.length+1<=1000000 by omega)
     refine I V.aI ?_;refine bR ?_;have Hi:fh 40 1 Ki (out++[d]).length (ca .u32 (out++[d])) IV:=by
        rw[wh,g1];exact Xh
     have bT:i+1<=(ap x).length/\(out++[d]).length=i+1/\b'<2/\fN (out++[d])/\bs ((ap x).take (i+1))+1000000000 ^ (i+1)*b'=bs (out++[d])+bs ((ap y).take (i+1))/\fh 40 1 Ki (out++[d]).length (ca .u32 (out++[d])) IV:=
        ⟨by omega,by rw[g1,hM];rfl,Dh,PQ hN fun z a0=>by rw[Fo.1 a0];exact au,US hM ay (by rw[aR];exact Ag),Hi⟩
     refine rg ?_;refine I V.aJ ?_;refine I V.bW ?_;refine I V.aI ?_;refine bR ?_;refine gF ⟨i+1,b',out++[d],Ki,IV⟩ ?_ (hm:=nR _ _);exact bT
  ·obtain rfl:i=(ap x).length:=by omega
   have Y3:=UR dT hN hM ay aL;refine aG ?_;refine ad.exit ?_;refine rg ?_;refine I V.aJ ?_;refine' W.step rfl (Exec.call rfl rfl rfl rfl rfl rfl rfl (bU:=ba) (eD:=[]) (.of_eq (jr ba)) trivial (ad6 dr hN (by omega)) ?_);rintro v' m' ae hle ⟨rfl,rfl,n8⟩;rw[Y3] at n8;refine I V.aI ?_;refine aD ?_;refine ad.ret ?_;refine'⟨.inr rfl,rfl,_,_,.tmp rfl .nil,cd _,⟨rfl,by rw[jr];exact n8⟩⟩
end
theorem aam{V c i j p R Y q dk T P5:Nat}(b6:T=c+dk+p*q)(h:V+1000000000 ^ (i+j)*c=R+1000000000 ^ i*(p*Y))(af:P5+1000000000 ^ (i+j)*dk=V+1000000000 ^ (i+j)*(T % 1000000000)):P5+1000000000 ^ (i+(j+1))*(T / 1000000000)=R+1000000000 ^ i*(p*(Y+1000000000 ^ j*q)):=by
 have e:1000000000 ^ (i+j)*T=1000000000 ^ (i+j)*(T % 1000000000)+1000000000 ^ (i+(j+1))*(T / 1000000000):=by
  conv=>lhs;rw[<-Fv T 1000000000]
  rw[lX,<-Le i j 1,mu,nU]
 have aZ:1000000000 ^ (i+j)*T=1000000000 ^ (i+j)*c+1000000000 ^ (i+j)*dk+1000000000 ^ (i+j)*(p*q):=by rw[b6,lX,lX]
 have cJ:1000000000 ^ i*(p*(Y+1000000000 ^ j*q))=1000000000 ^ i*(p*Y)+1000000000 ^ (i+j)*(p*q):=by
  rw[lX,lX,Lr,nU,Lo p]
 omega
theorem QV{l:List Nat}{i n v:Nat}(h:∀j z:Nat,n<=j->l[j]?=some z->z=0)(ar:i<n):∀j z:Nat,n<=j->(l.set i v)[j]?=some z->z=0:=fun j z aa ab=>by
 rw[List.getElem?_set_ne (by omega)] at ab;exact h j z aa ab
theorem D8{n:Nat}(h:n<1000000):n<cu:=Nat.lt_trans h (by decide)
section
variable {Q:ek Tryz.prog}{g0:Nat}{J:an}
theorem tk{v w:Value}{x y:Nat}(aa:dW J v x)(ab:dW J w y)(fR:(ap x).length<=400)(fZ:(ap y).length<=400):Fn (aO Q g0) 26 [v,w] [] J (kp J (x*y)):=by
 have aa:de .u32 J v (ap x):=aa;have ab:de .u32 J w (ap y):=ab;obtain⟨br,bn,rfl⟩:=aa.form;obtain⟨bN,bQ,rfl⟩:=ab.form;refine Fn.ck (ch Tryz.func26) rfl rfl fun H=>?_;refine rg ?_;refine I V.aI ?_;refine bb ?_;refine aH ?_;refine I V.bW ?_;refine' W.step rfl (.of (wQ rfl rfl rfl rfl rfl (iy Q g0) ?aX ?aa ?ab fun Cu=>?_));case aX=>exact bS
 case aa=>exact bS
 case ab=>exact bS
 refine I V.aI ?_;refine bR ?_;rw[show(((ap x).length:Int)+(ap y).length).toNat=(ap x).length+(ap y).length by omega,zero_num];refine rg ?_;refine I V.aI ?_;refine aD ?_;refine ad.block ?_;refine' ad.eH (l':=[(6,.int .i64 ((0):Int)),(0,_),(1,_),(5,_)]) ⟨?mi,rfl,rfl,rfl,trivial⟩ (cd _) ?_;case mi=>first|exact cq|exact aj some (aj (Value.int .u64) (by omega))|exact aj some (aj (Value.int .i64) (by omega))
 refine aG ?_;refine' ad.b0 (fun(cG:Nat×(List Nat))=>match cG with|(i,out)=>⟨[(6,.int .i64 (i:Int))],[lR .u32 40 Cu out],J,i<=(ap x).length/\out.length=(ap x).length+(ap y).length/\fN out/\(∀j z:Nat,i+(ap y).length<=j->out[j]?=some z->z=0)/\bs out=bs ((ap x).take i)*y,(ap x).length -i⟩) ⟨0,List.replicate ((ap x).length+(ap y).length) 0⟩ ?af ?bT
 case af=>exact⟨fB _,Fk,PS,fun j z _ a0=>Sx (k8 a0),by rw[RJ,nS];show 0=0*y;omega⟩
 case bT=>
  rintro⟨i,out⟩ hinv;try simp only at hinv
  obtain⟨ar,hM,hN,a0,ay⟩:=hinv;refine rg ?_;refine aH ?_;refine I V.a' ?_;refine aD ?_;refine If (fun hY=>?_) fun hY=>?_
  ·obtain⟨a,o,b4,e,rfl,fu,lF⟩:=aa.at (by omega);obtain⟨p,ao,h3⟩:=lF i (by omega);have bG:=qs (kj x) ao;refine e4 ?_;refine aG ?_;refine ad.block ?_;refine rg ?_;refine I V.aI ?_;refine bb ?_;refine I V.aI ?_;refine aD ?_;refine ad.block ?_;refine' ad.eH (l':=[(8,.int .i64 ((0):Int)),(7,.int .u64 ((0):Int)),(0,_),(1,_),(5,_),(6,_)]) ⟨?qI,?k3,rfl,rfl,rfl,rfl,trivial⟩ (cd _) ?_;case qI=>first|exact cq|exact aj some (aj (Value.int .u64) (by omega))|exact aj some (aj (Value.int .i64) (by omega))
   case k3=>first|exact cq|exact aj some (aj (Value.int .u64) (by omega))|exact aj some (aj (Value.int .i64) (by omega))
   refine aG ?_;refine' ad.b0 (fun(cG:Nat×Nat×(List Nat))=>match cG with|(j,kL,kk)=>⟨[(8,.int .i64 (j:Int)),(7,.int .u64 (kL:Int))],[lR .u32 40 Cu kk],J,j<=(ap y).length/\kL<1000000000/\kk.length=(ap x).length+(ap y).length/\fN kk/\(∀j z:Nat,i+(ap y).length<=j->kk[j]?=some z->z=0)/\bs kk+1000000000 ^ (i+j)*kL=bs ((ap x).take i)*y+1000000000 ^ i*(p*bs ((ap y).take j)),(ap y).length -j⟩) ⟨0,0,out⟩ ?af ?bT
   case af=>exact⟨fB _,by decide,hM,hN,a0,by rw[nS];show _=_+1000000000 ^ i*(p*0);rw[ay,Cq,Cq,Cq]⟩
   case bT=>
    rintro⟨j,kL,kk⟩ hinv;try simp only at hinv
    obtain⟨a5,Xu,N4,HT,kC,sW⟩:=hinv;refine rg ?_;refine aH ?_;refine I V.a' ?_;refine aD ?_;refine If (fun zB=>?_) fun zB=>?_
    ·obtain⟨bE,o',CH,bk,rfl,tT,It⟩:=ab.at (by omega);obtain⟨q,cc,x4⟩:=It j (by omega);have dd:=qs (kj y) cc;obtain⟨dk,hold⟩:∃dk,kk[i+j]?=some dk:=⟨_,eO (by omega)⟩;have fm:=qs HT hold;have gD:nth (ca .u32 kk) (0+((i:Int)+(j:Int)).toNat*1)=some (.int .u32 (dk:Int)):=s9 hold (by omega);have l6:p*q<=999999999*999999999:=pJ (by omega) (by omega);obtain⟨s,af⟩:∃s,s=kL+dk+p*q:=⟨_,rfl⟩;have Ie:(kL:Int)+(dk:Int)+(p:Int)*(q:Int)=(s:Int):=by rw[af,Fc,Fc,gZ]
     refine e4 ?_;refine aG ?_;refine ad.block ?_;refine aG ?_;refine ad.draw rfl (by kernel_rfl) (a2:=[.val 0,.val 1,.val 2,.val 3,.val 4,.val 5,.val 6,.val 7,.val 8,.val 9,.val 10,.val 11,.val 12,.val 13,.val 14,.val 15,.val 16,.val 17,.val 18,.val 19,.val 20,.bA 21]) (by kernel_rfl) ?_;refine e3 ?_;refine a6 rfl V.bW ?_;refine a6 rfl V.bj ?_;refine a6 rfl V.c2 ?_;refine a6 rfl V.gk ?_;refine a6 rfl V.bW ?_;refine e3 ?_;refine a6 rfl V.bj ?_;refine a6 rfl V.c2 ?_;refine a6 rfl V.gk ?_;refine e3 ?_;refine a6 rfl V.bj ?_;refine a6 rfl V.c2 ?_;refine a6 rfl V.gk ?_;refine a6 rfl V.bW ?_;refine a6 rfl V.bW ?_;refine ts rfl V.aI ?_;refine bi.nil ?_;rw[Ie];refine rg ?_;refine aH ?_;refine I V.bW ?_;refine I V.aJ ?_;refine I V.ha ?_;rw[show((s:Int).tmod 1000000000)=((s % 1000000000:Nat):Int) from(uV s 1000000000).symm];refine I V.gk ?_;refine I V.bj ?_;refine' W.step rfl (.of (k4 rfl rfl rfl rfl (jX rfl) rfl rfl rfl ?aa ?af ?ao ?_));case ao=>repeat first|exact .head _ _ _ _|apply dp.tail|apply dp.app
     case af=>exact pq (l:=kk) (x:=s % 1000000000) (i+j) (by omega) (by omega)
     case aa=>first|rfl|assumption
     refine bb ?_;refine I V.aJ ?_;refine I V.ha ?_;refine I V.aI ?_;refine bR ?_;rw[show((s:Int).tdiv 1000000000)=((s / 1000000000:Nat):Int) from(oJ s 1000000000).symm,show IntKind.u64.wrap ((s / 1000000000:Nat):Int)=((s / 1000000000:Nat):Int) from wrap_u64 (by omega) (by omega)];have Oz:=aam (p:=p) (R:=bs ((ap x).take i)*y) af sW (RF (y:=s % 1000000000) hold);rw[<-BY cc] at Oz;have YO:j+1<=(ap y).length/\s / 1000000000<1000000000/\(kk.set (i+j) (s % 1000000000)).length=(ap x).length+(ap y).length/\fN (kk.set (i+j) (s % 1000000000))/\(∀k z:Nat,i+(ap y).length<=k->(kk.set (i+j) (s % 1000000000))[k]?=some z->z=0)/\bs (kk.set (i+j) (s % 1000000000))+1000000000 ^ (i+(j+1))*(s / 1000000000)=bs ((ap x).take i)*y+1000000000 ^ i*(p*bs ((ap y).take (j+1))):=⟨by omega,by omega,by rw[nP];exact N4,El HT (oN _ (by decide)),QV kC (by omega),Oz⟩;refine rg ?_;refine I V.aJ ?_;refine I V.bW ?_;refine I V.aI ?_;refine bR ?_;refine gF ⟨j+1,s / 1000000000,kk.set (i+j) (s % 1000000000)⟩ ?_;exact YO
    ·obtain rfl:j=(ap y).length:=by omega
     obtain⟨dk,hold⟩:∃dk,kk[i+(ap y).length]?=some dk:=⟨_,eO (by omega)⟩;obtain rfl:=kC _ _ (c5 _) hold;have bT:i+1<=(ap x).length/\(kk.set (i+(ap y).length) kL).length=(ap x).length+(ap y).length/\fN (kk.set (i+(ap y).length) kL)/\(∀k z:Nat,i+1+(ap y).length<=k->(kk.set (i+(ap y).length) kL)[k]?=some z->z=0)/\bs (kk.set (i+(ap y).length) kL)=bs ((ap x).take (i+1))*y:=⟨by omega,by rw[nP];exact N4,El HT Xu,QV (fun k z a9 a4=>kC k z (by omega) a4) (by omega),by
      have a9:=RF (y:=kL) hold;rw[yV (c5 _),g5] at sW;rw[BY ao,iC,nU];omega⟩
     refine aG ?_;refine ad.exit ?_;refine rg ?_;refine aH ?_;refine I V.bW ?_;refine I V.aJ ?_;refine I V.gk ?_;refine I V.bj ?_;refine' W.step rfl (.of (k4 rfl rfl rfl rfl (jX rfl) rfl rfl rfl ?aa ?af ?ao ?_));case ao=>repeat first|exact .head _ _ _ _|apply dp.tail|apply dp.app
     case af=>exact pq (l:=kk) (x:=kL) (i+(ap y).length) (by omega) (by omega)
     case aa=>first|rfl|assumption
     refine bb ?_;refine I V.aJ ?_;refine I V.bW ?_;refine I V.aI ?_;refine bR ?_;refine gF ⟨i+1,kk.set (i+(ap y).length) kL⟩ ?_;exact bT
  ·obtain rfl:i=(ap x).length:=by omega
   rw[yV (c5 _),g5] at ay;have ak:∀ae,ae Cu=some (ca .u32 out,40)->ey ae 40 1 (.slice (some ⟨Cu,0,none⟩) ((ap x).length+(ap y).length) ((ap x).length+(ap y).length)) out.length (ca .u32 out):=fun ae tT=>by
    rw[<-hM];exact .row tT (by rw[kJ,iZ];exact ib (by rw[s8];exact c5 _)) (by rw[s8,iZ]) (fun _=>⟨c5 _,D8 (by omega)⟩) (fun q=>absurd q (zk (D8 (by omega))))
   refine aG ?_;refine ad.exit ?_;refine rg ?_;refine I V.aJ ?_;refine W.dB rfl fun a8 l3=>?_;refine b4 (G:=BP (l:=out) (ak _ l3) hN (by omega)) (h:=?_);rintro v' m' ae hle ⟨rfl,rfl,bP⟩;rw[ay] at bP;refine I V.aI ?_;refine aD ?_;refine ad.ret ?_;refine'⟨.inr rfl,rfl,_,[],.tmp rfl .nil,bZ _,⟨a8,rfl,bP⟩⟩
end
end
end Go.Opn
namespace Go.Opn
noncomputable section
theorem UW{A D l:Nat}(er:0<D):(l+1000000000*A) / D=(l+1000000000*(A % D)) / D+1000000000*(A / D)/\(l+1000000000*A) % D=(l+1000000000*(A % D)) % D:=by
 have e:l+1000000000*A=(l+1000000000*(A % D))+D*(1000000000*(A / D)):=by
  conv=>lhs;rw[<-Fv A D]
  rw[lX,<-Le,Lo 1000000000 D]
 rw[e];exact⟨SL _ _ er,Nat.add_mul_mod_self_left _ _ _⟩
theorem UV{D l c:Nat}(aA:l<1000000000)(aL:c<D):(l+1000000000*c) / D<1000000000:=by
 rw[Ft (by omega)];omega
theorem Q8(l:List Nat)(i:Nat):bs l=bs (l.take i)+1000000000 ^ i*bs (l.drop i):=by
 rcases hr l.length i with h|h
 ·rw[ib (by omega),w3 (by omega)];rfl
 ·exact yW l i h
theorem adZ{l:List Nat}(h:fN l)(i:Nat):bs (l.take i)<1000000000 ^ i:=by
 have aa:=wN (Ji (i:=i) h);exact jL aa (zl (by decide) (by rw[gp];omega))
theorem NW{V i:Nat}:bs ((ap V).drop i)=V / 1000000000 ^ i:=by
 have aa:=Q8 (ap V) i;rw[g5] at aa;have ab:=adZ (kj V) i;have ao:0<1000000000 ^ i:=zm (by decide);have:V / 1000000000 ^ i=(bs ((ap V).take i)+1000000000 ^ i*bs ((ap V).drop i)) / 1000000000 ^ i:=by rw[<-aa]
 rw[this,SL _ _ ao,qV ab,nh]
theorem Rr{Y n T:Nat}(aw:(ap Y)[n]?=some T):T*1000000000 ^ n<=Y:=by
 have aa:=Q8 (ap Y) n;rw[g5,BX aw,lX] at aa;rw[j4];omega
theorem Vk{V Y n T:Nat}(aw:(ap Y)[n]?=some T)(b6:0<T)(pW:V<1000000000*Y):V / Y<=Nat.min (bs ((ap V).drop n) / T) 999999999:=by
 have im:0<Y:=by
  have aa:=Rr aw;have ab:0<T*1000000000 ^ n:=hV b6 (zm (by decide));omega
 have aa:V / Y<1000000000:=by rw[Ft im];exact pW
 refine Nat.le_min.2 ⟨?_,by omega⟩;rw[NW,Lk b6,Lk (zm (by decide)),nU];exact eh (Ln _ (Rr aw)) (Nat.div_mul_le_self V Y)
theorem NX{V Y n:Nat}(aw:(ap Y).length=n+1)(pW:V<1000000000*Y)(j:Nat)(a5:n<=j):bs ((ap V).drop j)<1000000000000000000:=by
 have aa:=ur (x:=Y) (k:=n+1) (by omega);rw[NW];have ao:0<1000000000 ^ j:=zm (by decide);rw[Ft ao];have ab:1000000000*Y<1000000000 ^ (n+2):=by rw[mu 1000000000 (n+1),j4];exact Lp aa (by decide)
 have aY:1000000000 ^ (n+2)=1000000000000000000*1000000000 ^ n:=by rw[Lr,j4]
 have bu:1000000000 ^ n<=1000000000 ^ j:=zl (by decide) a5;omega
theorem U8{Y k m:Nat}{l:List Nat}(aA:fN l)(hk:l.length -k<=m)(aw:(ap Y).length=m+1):bs (l.drop k)<Y:=by
 have aa:=wN (aa9 (i:=k) aA);have ab:=RE (CJ Y) (fun q=>by rw[q] at aw;cases aw);rw[g5,aw,Fq] at ab;have aY:1000000000 ^ (l.drop k).length<=1000000000 ^ m:=zl (by decide) (by rw[r'];exact hk);omega
theorem Mp:∀{k:Nat} {l:List Nat},qM l->qM (l.drop k)
 |0,_,h=>h
 |k+1,[],h=>by rw[List.drop_nil];exact h
 |k+1,x::l,h=>by rw[List.drop_succ_cons];exact Mp (Gg h)
theorem drop_set{l:List Nat}{i v:Nat}(h:i<l.length):(l.set i v).drop i=v::l.drop (i+1):=by
 rw[U7 (l:=l.set i v) (x:=v) (by rw[Cl,bg rfl,bg h]),List.drop_set_of_lt (by omega)]
where
 U7 {l:List Nat} {i x:Nat} (h:l[i]?=some x):l.drop i=x::l.drop (i+1):=by
  have ar:=(hq.1 h).1;have U:l[i]=x:=by rw[eO ar] at h;injection h
  rw[K0 ar,U]
theorem Qs{L d:List Nat}{i a Y R V:Nat}(im:0<Y)(aK:L[i]?=some a)(au:i<d.length)(eC:R=bs (L.drop (i+1)) % Y)(fv:bs (d.drop (i+1))=bs (L.drop (i+1)) / Y)(pW:V=a+1000000000*R):bs ((d.set i (V / Y)).drop i)=bs (L.drop i) / Y/\V % Y=bs (L.drop i) % Y:=by
 have h:=UW (A:=bs (L.drop (i+1))) (l:=a) im;rw[drop_set au,BX aK];show V / Y+1000000000*bs (d.drop (i+1))=_/\_;rw[fv,h.1,h.2,pW,eC];exact⟨rfl,rfl⟩
end
end Go.Opn

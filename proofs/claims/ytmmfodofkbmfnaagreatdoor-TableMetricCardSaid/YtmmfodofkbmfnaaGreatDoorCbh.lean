/- A part of the proof of TableMetric. -/
import Derived.Test.YtmmfodofkbmfnaaGreatDoorCbg
set_option maxRecDepth 100000
set_option maxHeartbeats 8000000
set_option linter.unusedVariables false
set_option linter.unusedSimpArgs false
namespace Go.Opn
noncomputable section
open Go.Cre Go.RowKit Go.Proofs
theorem CR(l:List Nat)(i:Nat):bi (l.take (i+1))=bi (l.take i)+1000000000 ^ i*l.getD i 0:=by
 by_cases h:i<l.length
 ·rw[z4 (fx h),xw,fx h];rfl
 ·rw[xw,s7 (by omega),jY (by omega),jY (by omega)];rfl
theorem NR(l:List Nat)(x:Nat):bi (l++[x])=bi l+1000000000 ^ l.length*x:=by rw[z2,CS]
theorem Ei{l:List Nat}(h:e5 l)(i:Nat):l.getD i 0<1000000000:=by
 rw[xw];rcases q:l[i]? with _|x
 ·decide
 ·exact oK h q
theorem xb{l:List Nat}{i:Nat}(h:l.length<=i):bi (l.take i)=bi l:=by rw[jY h]
theorem Y3{x y i c:Nat}{out:List Nat}(ae:e5 out)(h:bi out+1000000000 ^ i*c=bi ((aj x).take i)+bi ((aj y).take i))(U:(aj x).length<=i)(ab:(aj y).length<=i)(aF:c=0)(aE:∀z,out.getLast?=some z->z≠0):out=aj (x+y):=by
 rw[aF,AA,n0,xb U,xb ab,gj,gj] at h;rw[<-h];exact AZ ⟨ae,aE⟩
theorem Y5{x y i c:Nat}{out:List Nat}(aw:out.length=i)(h:bi out+1000000000 ^ i*c=bi ((aj x).take i)+bi ((aj y).take i)){s:Nat}(ag:s=c+(aj x).getD i 0+(aj y).getD i 0):bi (out++[s % 1000000000])+1000000000 ^ (i+1)*(s / 1000000000)=bi ((aj x).take (i+1))+bi ((aj y).take (i+1)):=by
 rw[NR,CR,CR,aw];have e:1000000000 ^ i*s=1000000000 ^ i*(s % 1000000000)+1000000000 ^ (i+1)*(s / 1000000000):=by
  conv=>lhs;rw[<-Db s 1000000000]
  rw[kE,m4,rG]
 have aW:1000000000 ^ i*s=1000000000 ^ i*c+1000000000 ^ i*(aj x).getD i 0+1000000000 ^ i*(aj y).getD i 0:=by rw[ag,kE,kE]
 omega
theorem Y4{x y i c s:Nat}(ag:s=c+(aj x).getD i 0+(aj y).getD i 0)(qH:i<(aj x).length\/i<(aj y).length\/0<c)(U:(aj x).length<=i+1)(ab:(aj y).length<=i+1)(aF:s / 1000000000=0):s % 1000000000≠0:=by
 have hm:s % 1000000000=s:=qc (by omega);rw[hm];have j:∀z:Nat,i<(aj z).length->(aj z).length<=i+1->(aj z).getD i 0≠0:=fun z p q=>by
  have e:(aj z).length -1=i:=by omega
  refine zk z _ ?_;rw[As,e,xw,fx p];rfl
 rcases qH with q|q|q
 ·have:=j x q U;omega
 ·have:=j y q ab;omega
 ·omega
theorem pn{l:List Nat}{i x:Nat}(h:l[i]?=some x):l.getD i 0=x:=by rw[xw,h];rfl
theorem r3{l:List Nat}{i:Nat}(h:l.length<=i):l.getD i 0=0:=by rw[xw,s7 h];rfl
theorem Mg:e5 []:=fun z a0=>(by cases a0)
theorem VC:∀z:Nat,([]:List Nat).getLast?=some z->z≠0:=fun z a0=>(by cases a0)
theorem W.XA{K:di}{B:c6}{m dK bq:aU}{J:an}{ops rest:List Oper}{bt:Option (List PanicEntry)->bK->aU->an->Prop}{E:bK}{e:TypeId}{sz k:Nat}{v:Value}{cells:List Value}(h:Acc e sz v k cells bq)(hm:m=bq++dK)(hk:∀ai,J.le ai->ew ai e sz v k cells->W K B ops rest E dK ai bt):W K B ops rest E m J bt:=by
 subst hm;cases h with
 |nil=>exact hk J (an.le.refl _) .nil
 |hy a=>exact hk J (an.le.refl _) (.hy _ _ _ (by decide))
 |@opn a k cells rest z aw a0=>exact W.dv rfl fun U ab=>hk _ U (.row ab (by rw[kd,jY (by omega)]) aw (fun q=>absurd rfl q) (fun _=>rfl))
 |@cap a k C cells full el U ab aV br=>exact W.dv rfl fun gq hW=>hk _ gq (.row hW ab (by rw[<-ab,hQ,U,h5 (kf _ aV)]) (fun _=>⟨aV,br⟩) (fun q=>absurd q (xC br)))
theorem eK.pU{K:di}{B:c6}{m:aU}{J:an}{cC:Exit->bK->aU->an->Prop}{c:Code}{e:TypeId}{sz k:Nat}{v:Value}{cells:List Value}{bq dK:aU}{E:bK}(h:eK e sz v k cells bq)(hm:m.Perm (bq++dK))(hk:∀ai,J.le ai->ew ai e sz v k cells->ad K B c E dK ai cC):ad K B c E m J cC:=by
 rcases h with⟨h,_,_⟩|⟨a,full,rest,rfl,rfl,aV,br,gq⟩
 ·exact Acc.pU h hm hk
 ·refine ad.GG hm.symm ?_
  refine ad.ju (x:=(full,e)) rfl fun hle=>?_;exact hk _ hle (.row (an.h6 _ _ _) (by rw[kd];exact br) (by rw[<-br,hQ];omega) (fun q=>absurd rfl q) (fun _=>rfl))
theorem ew.num{J:an}{e:TypeId}{k:IntKind}{n:Nat}{v:Value}{l:List Nat}(h:ew J e 1 v n (cj k l)):dx k J v l:=by
 obtain⟨b,c,_,U,_⟩:=h.inv;rw[q5,iE] at U;subst U;exact⟨e,h⟩
section
variable {Q:eF Tryz.prog}{g0:Nat}{J:an}
theorem Xu{v w:Value}{x y:Nat}(U:dE J v x)(ab:dE J w y)(iK:(aj x).length<=1000)(ia:(aj y).length<=1000):Fn (aS Q g0) 28 [v,w] [] J (m7 J (x+y)):=by
 have U:dx .u32 J v (aj x):=U;have ab:dx .u32 J w (aj y):=ab;obtain⟨bV,bE,rfl⟩:=U.form;obtain⟨b7,b8,rfl⟩:=ab.form;refine Fn.cH (cK Tryz.func28) rfl rfl fun H=>?_;refine rg ?_;refine I V.aI ?_;refine bg ?_;refine I V.aI ?_;refine bg ?_;refine I V.aI ?_;refine bg ?_;refine I V.aI ?_;refine aJ ?_;refine ad.block ?_;refine' ad.eZ (l':=[(7,.int .i64 ((0):Int)),(6,.int .u32 ((0):Int)),(5,(.slice none 0 0)),(0,_),(1,_)]) ⟨?l9,?lx,?fu,rfl,rfl,trivial⟩ (cl _) ?_;case l9=>first|exact cu|exact ak some (ak (Value.int .u64) (by omega))|exact ak some (ak (Value.int .i64) (by omega))
 case lx=>first|exact cu|exact ak some (ak (Value.int .u64) (by omega))|exact ak some (ak (Value.int .i64) (by omega))
 case fu=>first|exact cu|exact ak some (ak (Value.int .u64) (by omega))|exact ak some (ak (Value.int .i64) (by omega))
 refine aM ?_;refine' ad.hN (fun(cT:Nat×Nat×(List Nat)×Value×aU)=>match cT with|(i,c,out,fu,bq)=>⟨[(7,.int .i64 (i:Int)),(6,.int .u32 (c:Int)),(5,fu)],bq,J,i<=1001/\out.length=i/\c<2/\e5 out/\bi out+1000000000 ^ i*c=bi ((aj x).take i)+bi ((aj y).take i)/\(((aj x).length<=i/\(aj y).length<=i/\c=0)->∀z,out.getLast?=some z->z≠0)/\(i=1001->c=0)/\Acc 61 1 fu out.length (cj .u32 out) bq,1001 -i⟩) ⟨0,0,[],.slice none 0 0,[]⟩ ?ag ?b2
 case ag=>exact⟨fj _,rfl,by decide,Mg,by rw[kD,kD];rfl,fun _=>VC,fun q=>absurd q (by decide),.nil⟩
 case b2=>
  rintro⟨i,c,out,fu,bq⟩ hinv;try simp only at hinv
  obtain⟨aq,g4,aF,iq,aD,TV,abp,ez⟩:=hinv;refine ma [0,1,5,6,7] ?_;refine aM ?_;refine' ad.nd 0 [(21,.bool (decide ((i<(aj x).length\/i<(aj y).length\/0<c))))] ?Qz ?Q9;case Qz=>
   refine ad.region ?_;refine aH ?_;refine I V.bk ?_;refine I V.aT ?_;refine gP 12 (fun Eo=>?_) fun Eo=>?_
   ·refine cz ?_;refine cz ?_;refine cz ?_;refine cz ?_;refine I V.bx ?_;refine I V.aT ?_;refine cz ?_;refine cz ?_;refine I V.bx ?_;refine bU ?_;refine'⟨⟨_,rfl,⟨?wL,rfl,rfl,rfl,rfl,rfl,trivial⟩⟩,cl _,rfl⟩;case wL=>first|exact pe rfl (by omega)|exact pc rfl (by omega)|exact pd rfl (by omega)|exact pb rfl (by omega)
   ·refine bF V.aT ?_;refine bF V.aT ?_;refine bF V.h2 ?_;refine bF V.bk ?_;refine I V.bx ?_;refine I V.aT ?_;refine gP 18 (fun Sw=>?_) fun Sw=>?_
    ·refine cz ?_;refine cz ?_;refine I V.bx ?_;refine bU ?_;refine'⟨⟨_,rfl,⟨?wL,rfl,rfl,rfl,rfl,rfl,trivial⟩⟩,cl _,rfl⟩;case wL=>first|exact pe rfl (by omega)|exact pc rfl (by omega)|exact pd rfl (by omega)|exact pb rfl (by omega)
    ·refine bF V.aT ?_;refine bF V.bk ?_;refine I V.bx ?_;refine bU ?_;refine'⟨⟨_,rfl,⟨?wL,rfl,rfl,rfl,rfl,rfl,trivial⟩⟩,cl _,rfl⟩;case wL=>first|exact pe rfl (by omega)|exact pc rfl (by omega)|exact pd rfl (by omega)|exact pb rfl (by omega)
  case Q9=>
   refine aM ?_;refine If (fun qp=>?_) fun qp=>?_
   ·obtain⟨s,ag⟩:∃s,s=c+(aj x).getD i 0+(aj y).getD i 0:=⟨_,rfl⟩;have aQ:=Ei (i' x) i;have aP:=Ei (i' y) i;refine fJ ?_;refine aM ?_;refine ad.block ?_;refine rg ?_;refine aH ?_;refine I V.bk ?_;refine bU ?_;refine ma [6,27,0,1,5,7] ?_;refine aM ?_;refine' ad.nd 2 [(6,.int .u32 ((c+(aj x).getD i 0:Nat):Int))] ?Qc ?Q2;case Qc=>
     refine If (fun kJ=>?_) fun kJ=>?_
     ·obtain⟨a,o,cm,e,rfl,gT,kp⟩:=U.at (by omega);obtain⟨p,ao,hf⟩:=kp i (by omega);have bC:=pn ao;refine rg ?_;refine aH ?_;refine I V.bw ?_;refine I V.ec ?_;refine I V.bX ?_;refine I V.aI ?_;refine bU ?_;refine'⟨⟨_,rfl,⟨?ed,rfl,rfl,rfl,rfl,trivial⟩⟩,cl _,rfl⟩;case ed=>first|exact ak some (ak (Value.int .u32) (by rw[pn ao];omega))|exact ak some (ak (Value.int .u32) (by rw[r3 (l:=aj x) (by omega)];omega))
     ·refine aM ?_;refine ad.skip ?_;refine'⟨⟨_,rfl,⟨?ed,rfl,rfl,rfl,rfl,trivial⟩⟩,cl _,rfl⟩;case ed=>first|exact ak some (ak (Value.int .u32) (by rw[pn ao];omega))|exact ak some (ak (Value.int .u32) (by rw[r3 (l:=aj x) (by omega)];omega))
    case Q2=>
     refine rg ?_;refine aH ?_;refine I V.bk ?_;refine bU ?_;refine ma [6,37,0,1,5,7] ?_;refine aM ?_;refine' ad.nd 2 [(6,.int .u32 (s:Int))] ?Qe ?Q4;case Qe=>
      refine If (fun DG=>?_) fun DG=>?_
      ·obtain⟨a,o,cm,e,rfl,gT,kp⟩:=ab.at (by omega);obtain⟨p,ao,hf⟩:=kp i (by omega);have bC:=pn ao;refine rg ?_;refine aH ?_;refine I V.bw ?_;refine I V.ec ?_;refine I V.bX ?_;refine I V.aI ?_;refine bU ?_;refine'⟨⟨_,rfl,⟨?ed,rfl,rfl,rfl,rfl,trivial⟩⟩,cl _,rfl⟩;case ed=>first|exact ak some (ak (Value.int .u32) (by rw[ag,pn ao];omega))|exact ak some (ak (Value.int .u32) (by rw[ag,r3 (l:=aj y) (by omega)];omega))
      ·refine aM ?_;refine ad.skip ?_;refine'⟨⟨_,rfl,⟨?ed,rfl,rfl,rfl,rfl,trivial⟩⟩,cl _,rfl⟩;case ed=>first|exact ak some (ak (Value.int .u32) (by rw[ag,pn ao];omega))|exact ak some (ak (Value.int .u32) (by rw[ag,r3 (l:=aj y) (by omega)];omega))
     case Q4=>
      refine rg ?_;refine aH ?_;refine I V.hU ?_;rw[show((s:Int).tmod 1000000000)=((s % 1000000000:Nat):Int) from(xo s 1000000000).symm];refine jA (iQ Q g0) fun aaP=>?_;refine' W.step rfl (.of (rr rfl rfl rfl rfl rfl rfl (iQ Q g0) (uT Q g0) (fun i q=>by cases q) ?ez ?hm ?j ?dQ ?dV ?aw fun Hg Gd Tj aca=>?_));case ez=>exact ez
      case hm=>exact(Aw _ bq).symm
      case j=>exact wW
      case dQ=>first|rfl|(simp;done)|(simp;omega)
      case dV=>first|rfl|exact zf _
      case aw=>exact(show out.length+1<=1000000 by omega)
      refine I V.aI ?_;refine bg ?_;refine I V.aT ?_;refine I V.hU ?_;refine I V.aI ?_;refine bU ?_;rw[show((s:Int).tdiv 1000000000)=((s / 1000000000:Nat):Int) from(rz s 1000000000).symm,show IntKind.u32.wrap ((s / 1000000000:Nat):Int)=((s / 1000000000:Nat):Int) from wrap_u32 (by omega) (by omega)];have EJ:Acc 61 1 Hg (out++[s % 1000000000]).length (cj .u32 (out++[s % 1000000000])) Gd:=by
       rw[zC,hP];exact Tj
      have b2:i+1<=1001/\(out++[s % 1000000000]).length=i+1/\s / 1000000000<2/\e5 (out++[s % 1000000000])/\bi (out++[s % 1000000000])+1000000000 ^ (i+1)*(s / 1000000000)=bi ((aj x).take (i+1))+bi ((aj y).take (i+1))/\(((aj x).length<=i+1/\(aj y).length<=i+1/\s / 1000000000=0)->∀z,(out++[s % 1000000000]).getLast?=some z->z≠0)/\(i+1=1001->s / 1000000000=0)/\Acc 61 1 Hg (out++[s % 1000000000]).length (cj .u32 (out++[s % 1000000000])) Gd:=by
       refine⟨by omega,by rw[hP,g4];rfl,by omega,Mf iq fun z a0=>by rw[Au.1 a0];exact qd _ (by decide),Y5 g4 aD ag,fun⟨a8,a5,bI⟩ z a0=>?_,fun q=>?_,EJ⟩
       ·rw[List.getLast?_append,List.getLast?_singleton] at a0
        injection a0 with a0
        rw[<-a0];exact Y4 ag qp a8 a5 bI
       ·have a8:=r3 (l:=aj x) (i:=i) (by omega)
        have a5:=r3 (l:=aj y) (i:=i) (by omega);omega
      refine rg ?_;refine I V.aT ?_;refine I V.bX ?_;refine I V.aI ?_;refine bU ?_;refine hO ⟨i+1,s / 1000000000,out++[s % 1000000000],Hg,Gd⟩ ?_ (hm:=vd _ _);exact b2
   ·refine Acc.pU ez (.of_eq (kW bq).symm) fun bO a' al=>?_;have e:=Y3 (x:=x) (y:=y) iq aD (by omega) (by omega) (by omega) (TV ⟨by omega,by omega,by omega⟩);rw[e] at al;refine aM ?_;refine ad.exit ?_;refine rg ?_;refine aH ?_;refine aJ ?_;refine ad.ret ?_;refine'⟨.inr rfl,rfl,_,[],.tmp rfl .nil,b1 _,⟨a',rfl,al⟩⟩
end
theorem QV{x y i b b' d:Nat}{out:List Nat}(aw:out.length=i)(h:bi ((aj x).take i)+1000000000 ^ i*b=bi out+bi ((aj y).take i))(ax:d+b+(aj y).getD i 0=(aj x).getD i 0+1000000000*b'):bi ((aj x).take (i+1))+1000000000 ^ (i+1)*b'=bi (out++[d])+bi ((aj y).take (i+1)):=by
 rw[NR,CR,CR,aw];have e:1000000000 ^ i*d+1000000000 ^ i*b+1000000000 ^ i*(aj y).getD i 0=1000000000 ^ i*(aj x).getD i 0+1000000000 ^ (i+1)*b':=by
  rw[m4,rG,<-kE,<-kE,<-kE,ax]
 omega
theorem QU{x y b:Nat}{out:List Nat}(dy:y<=x)(iq:e5 out)(aw:out.length=(aj x).length)(h:bi ((aj x).take (aj x).length)+1000000000 ^ (aj x).length*b=bi out+bi ((aj y).take (aj x).length))(af:b<2):bi out=x -y:=by
 have hlen:(aj y).length<=(aj x).length:=by
  rcases gX (aj x).length (aj y).length with q|q
  ·have:=sw (x:=x) (c9 _)
   have U:=NQ (i' x) (AY y) q;rw[gj,gj] at U;omega
  ·exact q
 rw[xb (c9 _),xb hlen,gj,gj] at h;have ab:=uV iq;rw[aw] at ab;rcases(show b=0\/b=1 by omega) with rfl|rfl
 ·rw[AA] at h;omega
 ·rw[iE] at h;omega
section
variable {Q:eF Tryz.prog}{g0:Nat}{J:an}
theorem Zm{v:Value}{l:List Nat}{bq:aU}(h:eK 61 1 v l.length (cj .u32 l) bq)(ae:e5 l)(aw:l.length<=1000):Fn (aS Q g0) 48 [v] bq J (fun u m' ai=>m'=bq/\J=ai/\eK 61 1 u (aj (bi l)).length (cj .u32 (aj (bi l))) bq):=by
 have TL:∃b c,v=.slice b l.length c:=by
  rcases h.form with⟨b,aQ,aP,_⟩|⟨a,full,rest,aQ,_⟩
  ·exact⟨_,_,by rw[aP];exact aQ⟩
  ·exact⟨_,_,aQ⟩
 obtain⟨b,c,rfl⟩:=TL;have jK:=h.row;refine Fn.cH (cK Tryz.func48) rfl rfl fun H=>?_;refine rg ?_;refine I V.aI ?_;refine aJ ?_;refine ad.block ?_;refine' ad.eZ (l':=[(0,.slice b (l.length) c)]) ⟨?w0,trivial⟩ (cl _) ?_;case w0=>first|exact cu|exact ak some (ak (Value.int .u64) (by omega))|exact ak some (ak (Value.int .i64) (by omega))
 refine aM ?_;refine' ad.l2 (α:=(Nat)) (fun(k:Nat)=>[(0,.slice b k c)]) (fun(k:Nat)=>k<=l.length/\∀aa y,k<=aa->l[aa]?=some y->y=0) (fun(k:Nat)=>k) (l.length) ?ag ?b2;case ag=>exact⟨c9 _,fun aa y U ab=>by have:=(h4.1 ab).1;omega⟩
 case b2=>
  rintro k hinv;try simp only at hinv
  obtain⟨hk,a0⟩:=hinv;refine rg ?_;refine aH ?_;refine I V.bk ?_;refine I V.aT ?_;refine gP 6 (fun jE=>?_) fun jE=>?_
  ·obtain⟨x,j⟩:∃x,l[k -1]?=some x:=⟨_,fx (by omega)⟩;obtain⟨a,full,rest,bc,rfl,gU,vX⟩:=jK (by omega);injection bc with bc _ dX
   subst bc;subst dX;have aE:nth full (0+((k:Int) -1).toNat*1)=some (.int .u32 (x:Int)):=by
    rw[Gn gU (by omega)];exact ux j (by omega)
   refine bF V.aT ?_;refine bF V.aT ?_;refine bF V.h2 ?_;refine bF V.bX ?_;refine bF V.bw ?_;refine bF V.cP ?_;refine bF V.bk ?_;refine I V.bx ?_;refine aJ ?_;refine If (fun iF=>?_) fun iF=>?_
   ·refine aM ?_;refine ad.skip ?_;refine aM ?_;refine ad.block ?_;refine rg ?_;refine aH ?_;refine I V.bX ?_;refine' W.step rfl (Exec.val rfl rfl (Hb rfl rfl rfl (iQ Q g0) ?hm ?a2 ?U) ?_);case hm=>repeat first|exact .head _|refine .tail _ ?_|refine eU _ ?_
    case a2=>exact cQ
    case U=>exact cQ
    refine I V.aI ?_;refine bU ?_;rw[show((k:Int) -1).toNat=k -1 by omega];refine'⟨(k -1),_,?hinv,?g5,rfl,⟨?dK,trivial⟩,cl _,rfl⟩;case dK=>first|exact cu|exact ak some (ak (Value.int .u64) (by omega))|exact ak some (ak (Value.int .i64) (by omega))
    case g5=>exact cQ
    case hinv=>
     exact⟨by omega,fun aa y U ab=>by
         by_cases q:k<=aa
         ·exact a0 aa y q ab
         ·obtain rfl:aa=k -1:=by omega
          rw[j] at ab;injection ab with ab;omega⟩
   ·refine aM ?_;refine ad.exit ?_;refine rg ?_;refine aH ?_;refine aJ ?_;refine ad.ret ?_;refine'⟨.inr rfl,rfl,_,_,.tmp rfl .nil,cl _,?_⟩;first
      |(have c:=iF;exact⟨rfl,rfl,by
           rw[<-w8 ae hk a0 fun y U ab=>by rw[j] at ab;injection ab with ab;omega];rw[hQ,h5 hk];obtain⟨_,_,_,bc,b6,mx⟩:=h.cut hk (by omega);injection bc with bc
           injection bc with bc
           injection bc with bc
           subst bc;have e:(cj IntKind.u32 l).take (k*1)=cj .u32 (l.take k):=by rw[iE];unfold cj;rw[xy]
           rw[<-e];exact mx⟩)
      |exact⟨rfl,rfl,by
           have yL:k=0:=by omega
           subst yL;rw[<-w8 ae hk a0 fun y U ab=>by omega];rw[kD];rcases ke l.length with q|q
           ·have e:l=[]:=nY q
            subst e;exact h
           ·obtain⟨a,full,rest,bc,b6,mx⟩:=h.cut hk q
            injection bc with bc _ dX
            subst bc;subst dX;exact mx⟩
  ·refine cz ?_;refine cz ?_;refine cz ?_;refine cz ?_;refine cz ?_;refine cz ?_;refine cz ?_;refine I V.bx ?_;refine aJ ?_;refine ad.rU rfl ?_;refine aM ?_;refine ad.exit ?_;refine rg ?_;refine aH ?_;refine aJ ?_;refine ad.ret ?_;refine'⟨.inr rfl,rfl,_,_,.tmp rfl .nil,cl _,?_⟩;first
    |exact⟨rfl,rfl,by
          have yL:k=0:=by omega
          subst yL;rw[<-w8 ae hk a0 fun y U ab=>by omega];rw[kD];rcases ke l.length with q|q
          ·have e:l=[]:=nY q
           subst e;exact h
          ·obtain⟨a,full,rest,bc,b6,mx⟩:=h.cut hk q
           injection bc with bc _ dX
           subst bc;subst dX;exact mx⟩
theorem LN{v w:Value}{x y:Nat}(U:dE J v x)(ab:dE J w y)(dy:y<=x)(aw:(aj x).length<=1000)(ia:(aj y).length<=1000):Fn (aS Q g0) 30 [v,w] [] J (fun u m' ai=>J=ai/\eK 61 1 u (aj (x -y)).length (cj .u32 (aj (x -y))) m'):=by
 have U:dx .u32 J v (aj x):=U;have ab:dx .u32 J w (aj y):=ab;obtain⟨bV,bE,rfl⟩:=U.form;obtain⟨b7,b8,rfl⟩:=ab.form;refine Fn.cH (cK Tryz.func30) rfl rfl fun H=>?_;refine rg ?_;refine I V.aI ?_;refine bg ?_;refine I V.aI ?_;refine bg ?_;refine I V.aI ?_;refine bg ?_;refine I V.aI ?_;refine aJ ?_;refine ad.block ?_;refine' ad.eZ (l':=[(7,.int .i64 ((0):Int)),(6,.int .i64 ((0):Int)),(5,(.slice none 0 0)),(0,_),(1,_)]) ⟨?l9,?lx,?fu,rfl,rfl,trivial⟩ (cl _) ?_;case l9=>first|exact cu|exact ak some (ak (Value.int .u64) (by omega))|exact ak some (ak (Value.int .i64) (by omega))
 case lx=>first|exact cu|exact ak some (ak (Value.int .u64) (by omega))|exact ak some (ak (Value.int .i64) (by omega))
 case fu=>first|exact cu|exact ak some (ak (Value.int .u64) (by omega))|exact ak some (ak (Value.int .i64) (by omega))
 refine aM ?_;refine' ad.hN (fun(cT:Nat×Nat×(List Nat)×Value×aU)=>match cT with|(i,b,out,fu,bq)=>⟨[(7,.int .i64 (i:Int)),(6,.int .i64 (b:Int)),(5,fu)],bq,J,i<=(aj x).length/\out.length=i/\b<2/\e5 out/\bi ((aj x).take i)+1000000000 ^ i*b=bi out+bi ((aj y).take i)/\eK 61 1 fu out.length (cj .u32 out) bq,(aj x).length -i⟩) ⟨0,0,[],.slice none 0 0,[]⟩ ?ag ?b2
 case ag=>exact⟨fj _,rfl,by decide,Mg,by rw[kD,kD];rfl,.inl ⟨.nil,CY,Cc⟩⟩
 case b2=>
  rintro⟨i,b,out,fu,bq⟩ hinv;try simp only at hinv
  obtain⟨aq,g4,aF,iq,aD,ez⟩:=hinv;refine rg ?_;refine aH ?_;refine I V.bk ?_;refine aJ ?_;refine If (fun kI=>?_) fun kI=>?_
  ·obtain⟨a,o,cm,e,rfl,gT,kp⟩:=U.at (by omega);obtain⟨p,ao,hf⟩:=kp i (by omega);have aQ:=pn ao;have aP:=Ei (i' y) i;have bC:=oK (i' x) ao;obtain⟨b',d,np,Tn,ax⟩:∃b' d:Nat,d+b+(aj y).getD i 0=p+1000000000*b'/\b'<2/\d<1000000000:=by
    by_cases q:p<b+(aj y).getD i 0
    ·exact⟨1,p+1000000000 -b -(aj y).getD i 0,by omega,by decide,by omega⟩
    ·exact⟨0,p -b -(aj y).getD i 0,by omega,by decide,by omega⟩
   refine fJ ?_;refine aM ?_;refine ad.block ?_;refine rg ?_;refine aH ?_;refine I V.bw ?_;refine I V.ec ?_;refine I V.gb ?_;refine I V.aT ?_;refine I V.bX ?_;refine I V.aI ?_;refine bg ?_;refine aH ?_;refine I V.bk ?_;refine bU ?_;refine ma [8,25,0,1,5,7] ?_;refine aM ?_;refine' ad.nd 2 [(8,.int .i64 ((p:Int) -b -((aj y).getD i 0:Nat)))] ?DN ?DU;case DN=>
    refine If (fun qq=>?_) fun qq=>?_
    ·obtain⟨bA,o',AW,bl,rfl,yt,FK⟩:=ab.at (by omega);obtain⟨fI,ou,abY⟩:=FK i (by omega);have dp:=pn ou;have gi:=oK (i' y) ou;refine rg ?_;refine aH ?_;refine I V.bw ?_;refine I V.ec ?_;refine I V.gb ?_;refine I V.bX ?_;refine I V.aI ?_;refine bU ?_;refine'⟨⟨_,rfl,⟨?nG,rfl,rfl,rfl,rfl,trivial⟩⟩,cl _,rfl⟩;case nG=>first|exact ak some (ak (Value.int .i64) (by have q:=pn ou;omega))|exact ak some (ak (Value.int .i64) (by have q:=r3 (l:=aj y) (i:=i) (by omega);omega))
    ·refine aM ?_;refine ad.skip ?_;refine'⟨⟨_,rfl,⟨?nG,rfl,rfl,rfl,rfl,trivial⟩⟩,cl _,rfl⟩;case nG=>first|exact ak some (ak (Value.int .i64) (by have q:=pn ou;omega))|exact ak some (ak (Value.int .i64) (by have q:=r3 (l:=aj y) (i:=i) (by omega);omega))
   case DU=>
    refine rg ?_;refine I V.aI ?_;refine bg ?_;refine I V.aT ?_;refine I V.bk ?_;refine bU ?_;refine ma [6,8,34,0,1,5,7] ?_;refine aM ?_;refine' ad.nd 3 [(6,.int .i64 (b':Int)),(8,.int .i64 (d:Int))] ?Qd ?Q3;case Qd=>
     refine If (fun PO=>?_) fun PO=>?_
     ·refine rg ?_;refine I V.aT ?_;refine I V.bX ?_;refine aH ?_;refine bU ?_;refine'⟨⟨_,rfl,⟨?ed,?nG,rfl,rfl,rfl,rfl,trivial⟩⟩,cl _,rfl⟩;case ed=>exact ak some (ak (Value.int .i64) (by omega))
      case nG=>exact ak some (ak (Value.int .i64) (by omega))
     ·refine aM ?_;refine ad.skip ?_;refine'⟨⟨_,rfl,⟨?ed,?nG,rfl,rfl,rfl,rfl,trivial⟩⟩,cl _,rfl⟩;case ed=>exact ak some (ak (Value.int .i64) (by omega))
      case nG=>exact ak some (ak (Value.int .i64) (by omega))
    case Q3=>
     refine rg ?_;refine aH ?_;refine I V.gb ?_;refine jA (iQ Q g0) fun aaN=>?_;refine' W.step rfl (.of (Og rfl rfl rfl rfl rfl rfl (iQ Q g0) (uT Q g0) (fun i q=>by cases q) ?ez ?hm ?j ?dQ ?dV ?aX ?aw fun Hf Gc Th=>?_));case ez=>exact ez
     case hm=>exact(Aw _ bq).symm
     case j=>exact wW
     case dQ=>first|rfl|(simp;done)|(simp;omega)
     case dV=>first|rfl|exact zf _
     case aX=>exact Nat.one_pos
     case aw=>exact(show out.length+1<=1000000 by omega)
     refine I V.aI ?_;refine bU ?_;have EJ:eK 61 1 Hf (out++[d]).length (cj .u32 (out++[d])) Gc:=by
        rw[zC,hP];exact Th
     have b2:i+1<=(aj x).length/\(out++[d]).length=i+1/\b'<2/\e5 (out++[d])/\bi ((aj x).take (i+1))+1000000000 ^ (i+1)*b'=bi (out++[d])+bi ((aj y).take (i+1))/\eK 61 1 Hf (out++[d]).length (cj .u32 (out++[d])) Gc:=
        ⟨by omega,by rw[hP,g4];rfl,Tn,Mf iq fun z a0=>by rw[Au.1 a0];exact ax,QV g4 aD (by rw[aQ];exact np),EJ⟩
     refine rg ?_;refine I V.aT ?_;refine I V.bX ?_;refine I V.aI ?_;refine bU ?_;refine hO ⟨i+1,b',out++[d],Hf,Gc⟩ ?_ (hm:=vd _ _);exact b2
  ·obtain rfl:i=(aj x).length:=by omega
   have UK:=QU dy iq g4 aD aF;refine aM ?_;refine ad.exit ?_;refine rg ?_;refine I V.aT ?_;refine' W.step rfl (Exec.call rfl rfl rfl rfl rfl rfl rfl (ck:=bq) (e8:=[]) (.of_eq (kW bq)) trivial (Zm ez iq (by omega)) ?_);rintro v' m' ai hle ⟨rfl,rfl,mx⟩;rw[UK] at mx;refine I V.aI ?_;refine aJ ?_;refine ad.ret ?_;refine'⟨.inr rfl,rfl,_,_,.tmp rfl .nil,cl _,⟨rfl,by rw[kW];exact mx⟩⟩
end
theorem V4{V c i aa p R Y q c3 T Mt:Nat}(cw:T=c+c3+p*q)(h:V+1000000000 ^ (i+aa)*c=R+1000000000 ^ i*(p*Y))(ag:Mt+1000000000 ^ (i+aa)*c3=V+1000000000 ^ (i+aa)*(T % 1000000000)):Mt+1000000000 ^ (i+(aa+1))*(T / 1000000000)=R+1000000000 ^ i*(p*(Y+1000000000 ^ aa*q)):=by
 have e:1000000000 ^ (i+aa)*T=1000000000 ^ (i+aa)*(T % 1000000000)+1000000000 ^ (i+(aa+1))*(T / 1000000000):=by
  conv=>lhs;rw[<-Db T 1000000000]
  rw[kE,<-H3 i aa 1,m4,rG]
 have aW:1000000000 ^ (i+aa)*T=1000000000 ^ (i+aa)*c+1000000000 ^ (i+aa)*c3+1000000000 ^ (i+aa)*(p*q):=by rw[cw,kE,kE]
 have cr:1000000000 ^ i*(p*(Y+1000000000 ^ aa*q))=1000000000 ^ i*(p*Y)+1000000000 ^ (i+aa)*(p*q):=by
  rw[kE,kE,Ia,rG,H9 p]
 omega
theorem M8{l:List Nat}{i n v:Nat}(h:∀aa z:Nat,n<=aa->l[aa]?=some z->z=0)(aq:i<n):∀aa z:Nat,n<=aa->(l.set i v)[aa]?=some z->z=0:=fun aa z U ab=>by
 rw[List.getElem?_set_ne (by omega)] at ab;exact h aa z U ab
theorem B7{n:Nat}(h:n<1000000):n<cf:=Nat.lt_trans h (by decide)
section
variable {Q:eF Tryz.prog}{g0:Nat}{J:an}
theorem uQ{v w:Value}{x y:Nat}(U:dE J v x)(ab:dE J w y)(iK:(aj x).length<=400)(ia:(aj y).length<=400):Fn (aS Q g0) 27 [v,w] [] J (m7 J (x*y)):=by
 have U:dx .u32 J v (aj x):=U;have ab:dx .u32 J w (aj y):=ab;obtain⟨bV,bE,rfl⟩:=U.form;obtain⟨b7,b8,rfl⟩:=ab.form;refine Fn.cH (cK Tryz.func27) rfl rfl fun H=>?_;refine rg ?_;refine I V.aI ?_;refine bg ?_;refine aH ?_;refine I V.bX ?_;refine' W.step rfl (.of (xh rfl rfl rfl rfl rfl (iQ Q g0) ?a2 ?U ?ab fun AH=>?_));case a2=>exact cQ
 case U=>exact cQ
 case ab=>exact cQ
 refine I V.aI ?_;refine bU ?_;rw[show(((aj x).length:Int)+(aj y).length).toNat=(aj x).length+(aj y).length by omega,zero_num];refine rg ?_;refine I V.aI ?_;refine aJ ?_;refine ad.block ?_;refine' ad.eZ (l':=[(6,.int .i64 ((0):Int)),(0,_),(1,_),(5,_)]) ⟨?lx,rfl,rfl,rfl,trivial⟩ (cl _) ?_;case lx=>first|exact cu|exact ak some (ak (Value.int .u64) (by omega))|exact ak some (ak (Value.int .i64) (by omega))
 refine aM ?_;refine' ad.hN (fun(cT:Nat×(List Nat))=>match cT with|(i,out)=>⟨[(6,.int .i64 (i:Int))],[kz .u32 61 AH out],J,i<=(aj x).length/\out.length=(aj x).length+(aj y).length/\e5 out/\(∀aa z:Nat,i+(aj y).length<=aa->out[aa]?=some z->z=0)/\bi out=bi ((aj x).take i)*y,(aj x).length -i⟩) ⟨0,List.replicate ((aj x).length+(aj y).length) 0⟩ ?ag ?b2
 case ag=>exact⟨fj _,HU,Mh,fun aa z _ a0=>OK (nZ a0),by rw[NT,kD];show 0=0*y;omega⟩
 case b2=>
  rintro⟨i,out⟩ hinv;try simp only at hinv
  obtain⟨aq,g4,iq,a0,aD⟩:=hinv;refine rg ?_;refine aH ?_;refine I V.bk ?_;refine aJ ?_;refine If (fun jh=>?_) fun jh=>?_
  ·obtain⟨a,o,cm,e,rfl,gT,kp⟩:=U.at (by omega);obtain⟨p,ao,hf⟩:=kp i (by omega);have bC:=oK (i' x) ao;refine fJ ?_;refine aM ?_;refine ad.block ?_;refine rg ?_;refine I V.aI ?_;refine bg ?_;refine I V.aI ?_;refine aJ ?_;refine ad.block ?_;refine' ad.eZ (l':=[(8,.int .i64 ((0):Int)),(7,.int .u64 ((0):Int)),(0,_),(1,_),(5,_),(6,_)]) ⟨?uX,?l9,rfl,rfl,rfl,rfl,trivial⟩ (cl _) ?_;case uX=>first|exact cu|exact ak some (ak (Value.int .u64) (by omega))|exact ak some (ak (Value.int .i64) (by omega))
   case l9=>first|exact cu|exact ak some (ak (Value.int .u64) (by omega))|exact ak some (ak (Value.int .i64) (by omega))
   refine aM ?_;refine' ad.hN (fun(cT:Nat×Nat×(List Nat))=>match cT with|(aa,jC,jb)=>⟨[(8,.int .i64 (aa:Int)),(7,.int .u64 (jC:Int))],[kz .u32 61 AH jb],J,aa<=(aj y).length/\jC<1000000000/\jb.length=(aj x).length+(aj y).length/\e5 jb/\(∀aa z:Nat,i+(aj y).length<=aa->jb[aa]?=some z->z=0)/\bi jb+1000000000 ^ (i+aa)*jC=bi ((aj x).take i)*y+1000000000 ^ i*(p*bi ((aj y).take aa)),(aj y).length -aa⟩) ⟨0,0,out⟩ ?ag ?b2
   case ag=>exact⟨fj _,by decide,g4,iq,a0,by rw[kD];show _=_+1000000000 ^ i*(p*0);rw[aD,AA,AA,AA]⟩
   case b2=>
    rintro⟨aa,jC,jb⟩ hinv;try simp only at hinv
    obtain⟨aX,Tq,Kz,Fe,jq,qS⟩:=hinv;refine rg ?_;refine aH ?_;refine I V.bk ?_;refine aJ ?_;refine If (fun xS=>?_) fun xS=>?_
    ·obtain⟨bA,o',AW,bl,rfl,yt,FK⟩:=ab.at (by omega);obtain⟨q,bY,v8⟩:=FK aa (by omega);have dp:=oK (i' y) bY;obtain⟨c3,hold⟩:∃c3,jb[i+aa]?=some c3:=⟨_,fx (by omega)⟩;have gi:=oK Fe hold;have gH:nth (cj .u32 jb) (0+((i:Int)+(aa:Int)).toNat*1)=some (.int .u32 (c3:Int)):=ux hold (by omega);have kP:p*q<=999999999*999999999:=rH (by omega) (by omega);obtain⟨s,ag⟩:∃s,s=jC+c3+p*q:=⟨_,rfl⟩;have Fy:(jC:Int)+(c3:Int)+(p:Int)*(q:Int)=(s:Int):=by rw[ag,Ap,Ap,gw]
     refine fJ ?_;refine aM ?_;refine ad.block ?_;refine aM ?_;refine ad.draw rfl (by kernel_rfl) (a6:=[.val 0,.val 1,.val 2,.val 3,.val 4,.val 5,.val 6,.val 7,.val 8,.val 9,.val 10,.val 11,.val 12,.val 13,.val 14,.val 15,.val 16,.val 17,.val 18,.val 19,.val 20,.bZ 21]) (by kernel_rfl) ?_;refine fX ?_;refine bd rfl V.bX ?_;refine bd rfl V.bw ?_;refine bd rfl V.ec ?_;refine bd rfl V.gb ?_;refine bd rfl V.bX ?_;refine fX ?_;refine bd rfl V.bw ?_;refine bd rfl V.ec ?_;refine bd rfl V.gb ?_;refine fX ?_;refine bd rfl V.bw ?_;refine bd rfl V.ec ?_;refine bd rfl V.gb ?_;refine bd rfl V.bX ?_;refine bd rfl V.bX ?_;refine rv rfl V.aI ?_;refine bR.nil ?_;rw[Fy];refine rg ?_;refine aH ?_;refine I V.bX ?_;refine I V.aT ?_;refine I V.hU ?_;rw[show((s:Int).tmod 1000000000)=((s % 1000000000:Nat):Int) from(xo s 1000000000).symm];refine I V.gb ?_;refine I V.bw ?_;refine' W.step rfl (.of (nP rfl rfl rfl rfl (lq rfl) rfl rfl rfl ?U ?ag ?ao ?_));case ao=>repeat first|exact .head _ _ _ _|apply e6.tail|apply e6.app
     case ag=>exact pP (l:=jb) (x:=s % 1000000000) (i+aa) (by omega) (by omega)
     case U=>first|rfl|assumption
     refine bg ?_;refine I V.aT ?_;refine I V.hU ?_;refine I V.aI ?_;refine bU ?_;rw[show((s:Int).tdiv 1000000000)=((s / 1000000000:Nat):Int) from(rz s 1000000000).symm,show IntKind.u64.wrap ((s / 1000000000:Nat):Int)=((s / 1000000000:Nat):Int) from wrap_u64 (by omega) (by omega)];have K3:=V4 (p:=p) (R:=bi ((aj x).take i)*y) ag qS (NP (y:=s % 1000000000) hold);rw[<-z4 bY] at K3;have Uu:aa+1<=(aj y).length/\s / 1000000000<1000000000/\(jb.set (i+aa) (s % 1000000000)).length=(aj x).length+(aj y).length/\e5 (jb.set (i+aa) (s % 1000000000))/\(∀k z:Nat,i+(aj y).length<=k->(jb.set (i+aa) (s % 1000000000))[k]?=some z->z=0)/\bi (jb.set (i+aa) (s % 1000000000))+1000000000 ^ (i+(aa+1))*(s / 1000000000)=bi ((aj x).take i)*y+1000000000 ^ i*(p*bi ((aj y).take (aa+1))):=⟨by omega,by omega,by rw[rB];exact Kz,Cm Fe (qd _ (by decide)),M8 jq (by omega),K3⟩;refine rg ?_;refine I V.aT ?_;refine I V.bX ?_;refine I V.aI ?_;refine bU ?_;refine hO ⟨aa+1,s / 1000000000,jb.set (i+aa) (s % 1000000000)⟩ ?_;exact Uu
    ·obtain rfl:aa=(aj y).length:=by omega
     obtain⟨c3,hold⟩:∃c3,jb[i+(aj y).length]?=some c3:=⟨_,fx (by omega)⟩;obtain rfl:=jq _ _ (c9 _) hold;have b2:i+1<=(aj x).length/\(jb.set (i+(aj y).length) jC).length=(aj x).length+(aj y).length/\e5 (jb.set (i+(aj y).length) jC)/\(∀k z:Nat,i+1+(aj y).length<=k->(jb.set (i+(aj y).length) jC)[k]?=some z->z=0)/\bi (jb.set (i+(aj y).length) jC)=bi ((aj x).take (i+1))*y:=⟨by omega,by rw[rB];exact Kz,Cm Fe Tq,M8 (fun k z a8 a5=>jq k z (by omega) a5) (by omega),by
      have a8:=NP (y:=jC) hold;rw[xb (c9 _),gj] at qS;rw[z4 ao,hH,rG];omega⟩
     refine aM ?_;refine ad.exit ?_;refine rg ?_;refine aH ?_;refine I V.bX ?_;refine I V.aT ?_;refine I V.gb ?_;refine I V.bw ?_;refine' W.step rfl (.of (nP rfl rfl rfl rfl (lq rfl) rfl rfl rfl ?U ?ag ?ao ?_));case ao=>repeat first|exact .head _ _ _ _|apply e6.tail|apply e6.app
     case ag=>exact pP (l:=jb) (x:=jC) (i+(aj y).length) (by omega) (by omega)
     case U=>first|rfl|assumption
     refine bg ?_;refine I V.aT ?_;refine I V.bX ?_;refine I V.aI ?_;refine bU ?_;refine hO ⟨i+1,jb.set (i+(aj y).length) jC⟩ ?_;exact b2
  ·obtain rfl:i=(aj x).length:=by omega
   rw[xb (c9 _),gj] at aD;have al:∀ai,ai AH=some (cj .u32 out,61)->ew ai 61 1 (.slice (some ⟨AH,0,none⟩) ((aj x).length+(aj y).length) ((aj x).length+(aj y).length)) out.length (cj .u32 out):=fun ai yt=>by
    rw[<-g4];exact .row yt (by rw[kd,iE];exact jY (by rw[q5];exact c9 _)) (by rw[q5,iE]) (fun _=>⟨c9 _,B7 (by omega)⟩) (fun q=>absurd q (xC (B7 (by omega))))
   refine aM ?_;refine ad.exit ?_;refine rg ?_;refine I V.aT ?_;refine W.dv rfl fun a' nl=>?_;refine cm (G:=zV (l:=out) (al _ nl) iq (by omega)) (h:=?_);rintro v' m' ai hle ⟨rfl,rfl,bD⟩;rw[aD] at bD;refine I V.aI ?_;refine aJ ?_;refine ad.ret ?_;refine'⟨.inr rfl,rfl,_,[],.tmp rfl .nil,b1 _,⟨a',rfl,bD⟩⟩
end
end
end Go.Opn
namespace Go.Opn
noncomputable section
theorem QZ{A D l:Nat}(eb:0<D):(l+1000000000*A) / D=(l+1000000000*(A % D)) / D+1000000000*(A / D)/\(l+1000000000*A) % D=(l+1000000000*(A % D)) % D:=by
 have e:l+1000000000*A=(l+1000000000*(A % D))+D*(1000000000*(A / D)):=by
  conv=>lhs;rw[<-Db A D]
  rw[kE,<-H3,H9 1000000000 D]
 rw[e];exact⟨OV _ _ eb,Nat.add_mul_mod_self_left _ _ _⟩
theorem QY{D l c:Nat}(aw:l<1000000000)(aF:c<D):(l+1000000000*c) / D<1000000000:=by
 rw[Da (by omega)];omega
theorem Ni(l:List Nat)(i:Nat):bi l=bi (l.take i)+1000000000 ^ i*bi (l.drop i):=by
 rcases gX l.length i with h|h
 ·rw[jY (by omega),va (by omega)];rfl
 ·exact xc l i h
theorem Zg{l:List Nat}(h:e5 l)(i:Nat):bi (l.take i)<1000000000 ^ i:=by
 have U:=uV (Gv (i:=i) h);exact jZ U (xD (by decide) (by rw[hQ];omega))
theorem Kr{V i:Nat}:bi ((aj V).drop i)=V / 1000000000 ^ i:=by
 have U:=Ni (aj V) i;rw[gj] at U;have ab:=Zg (i' V) i;have ao:0<1000000000 ^ i:=AD (by decide);have:V / 1000000000 ^ i=(bi ((aj V).take i)+1000000000 ^ i*bi ((aj V).drop i)) / 1000000000 ^ i:=by rw[<-U]
 rw[this,OV _ _ ao,o3 ab,lE]
theorem NB{Y n T:Nat}(aE:(aj Y)[n]?=some T):T*1000000000 ^ n<=Y:=by
 have U:=Ni (aj Y) n;rw[gj,z3 aE,kE] at U;rw[lD];omega
theorem Rq{V Y n T:Nat}(aE:(aj Y)[n]?=some T)(cw:0<T)(og:V<1000000000*Y):V / Y<=Nat.min (bi ((aj V).drop n) / T) 999999999:=by
 have k7:0<Y:=by
  have U:=NB aE;have ab:0<T*1000000000 ^ n:=gm cw (AD (by decide));omega
 have U:V / Y<1000000000:=by rw[Da k7];exact og
 refine Nat.le_min.2 ⟨?_,by omega⟩;rw[Kr,H7 cw,H7 (AD (by decide)),rG];exact ej (H8 _ (NB aE)) (Nat.div_mul_le_self V Y)
theorem Ks{V Y n:Nat}(aE:(aj Y).length=n+1)(og:V<1000000000*Y)(aa:Nat)(aX:n<=aa):bi ((aj V).drop aa)<1000000000000000000:=by
 have U:=sw (x:=Y) (k:=n+1) (by omega);rw[Kr];have ao:0<1000000000 ^ aa:=AD (by decide);rw[Da ao];have ab:1000000000*Y<1000000000 ^ (n+2):=by rw[m4 1000000000 (n+1),lD];exact Nat.mul_lt_mul_of_pos_right U (by decide)
 have aV:1000000000 ^ (n+2)=1000000000000000000*1000000000 ^ n:=by rw[Ia,lD]
 have br:1000000000 ^ n<=1000000000 ^ aa:=xD (by decide) aX;omega
theorem Rd{Y k m:Nat}{l:List Nat}(aw:e5 l)(hk:l.length -k<=m)(aE:(aj Y).length=m+1):bi (l.drop k)<Y:=by
 have U:=uV (WI (i:=k) aw);have ab:=NO (AY Y) (fun q=>by rw[q] at aE;cases aE);rw[gj,aE,Nat.add_sub_cancel] at ab;have aV:1000000000 ^ (l.drop k).length<=1000000000 ^ m:=xD (by decide) (by rw[qa];exact hk);omega
theorem I5:∀{k:Nat} {l:List Nat},oX l->oX (l.drop k)
 |0,_,h=>h
 |k+1,[],h=>by rw[List.drop_nil];exact h
 |k+1,x::l,h=>by rw[List.drop_succ_cons];exact I5 (DO h)
theorem drop_set{l:List Nat}{i v:Nat}(h:i<l.length):(l.set i v).drop i=v::l.drop (i+1):=by
 rw[Rc (l:=l.set i v) (x:=v) (by rw[List.getElem?_set,bs rfl,bs h]),List.drop_set_of_lt (by omega)]
where
 Rc {l:List Nat} {i x:Nat} (h:l[i]?=some x):l.drop i=x::l.drop (i+1):=by
  have aq:=(h4.1 h).1;have j:l[i]=x:=by rw[fx aq] at h;injection h
  rw[HP aq,j]
theorem ML{L d:List Nat}{i a Y R V:Nat}(k7:0<Y)(aK:L[i]?=some a)(ax:i<d.length)(et:R=bi (L.drop (i+1)) % Y)(eQ:bi (d.drop (i+1))=bi (L.drop (i+1)) / Y)(og:V=a+1000000000*R):bi ((d.set i (V / Y)).drop i)=bi (L.drop i) / Y/\V % Y=bi (L.drop i) % Y:=by
 have h:=QZ (A:=bi (L.drop (i+1))) (l:=a) k7;rw[drop_set ax,z3 aK];show V / Y+1000000000*bi (d.drop (i+1))=_/\_;rw[eQ,h.1,h.2,og,et];exact⟨rfl,rfl⟩
end
end Go.Opn

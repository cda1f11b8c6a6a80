/- A part of the proof of TableRounds. -/
import Derived.Test.YtfdhclnfkafebaaGreatDoorCbg
import Derived.Test.YtfdhclnfkafebaaGreatDoorCay
import Derived.Test.YtfdhclnfkafebaaGreatDoorCaw
import Derived.Test.YtfdhclnfkafebaaGreatDoorCbh
import Derived.Test.YtfdhclnfkafebaaGreatDoorCbf
set_option linter.unusedVariables false
namespace Go.Opn
noncomputable section
def ts:List cG->Int
 |[]=>0
 |x::l=>if lp x=0 then ts l else lp x
def fj:List cG->Nat
 |[]=>1
 |x::l=>aN x.den*fj l
def shr(s:Nat)(x:cG):Nat:=aN x.num*(s / aN x.den)
def g2(l:List cG):List Nat:=l.map (shr (fj l))
def kO(l:List cG):Prop:=∀x∈l,lp x=0
def ou(l:List cG):Prop:=∀x∈l,x.num.length<=4/\x.den.length<=4
theorem NP{x:cG}{l:List cG}(h:lp x=0):ts (x::l)=ts l:=bj h
theorem wE:∀{l:List cG} {i:Nat} {x:cG},(∀y∈l.take i,lp y=0)->l[i]?=some x->lp x≠0->ts l=lp x
 |[],_,_,_,ab,_=>by cases ab
 |y::l,0,x,_,ab,h=>by
  have e:y=x:=by injection ab
  subst e
  exact bd h
 |y::l,i+1,x,aS,ab,h=>by
  rw[NP (aS y (by rw[Mi];exact .head _))]
  exact wE (fun z aL=>aS z (by rw[Mi];exact .tail _ aL)) ab h
theorem NQ:∀{l:List cG},kO l->ts l=0
 |[],_=>rfl
 |x::l,h=>by rw[NP (h x (.head _))];exact NQ fun y aB=>h y (.tail _ aB)
theorem Nh:∀{l:List cG} {x:cG},x∈l->aN x.den ∣ fj l
 |y::l,x,h=>by
  rcases gb.1 h with q|q
  ·rw[q];exact Nat.dvd_mul_right _ _
  ·exact IT (Nh q) (Nat.dvd_mul_left _ _)
theorem nX:∀{l:List cG},kO l->0<fj l
 |[],_=>Nat.one_pos
 |x::l,h=>iW (sc (h x (.head _))).2.2.2.1 (nX fun y aB=>h y (.tail _ aB))
theorem anZ{x:cG}{s:Nat}(h:lp x=0)(aq:aN x.den ∣ s)(ag:0<s):bk (shr s x:Int) s=x.rt:=by
 obtain⟨_,_,_,aJ⟩:=sc h
 refine(xw aJ ag ?_).symm
 obtain⟨k,hk⟩:=aq
 have CV:0<aN x.den:=aJ.1
 show((aN x.num:Nat):Int)*s=(shr s x:Int)*(aN x.den:Nat)
 unfold shr
 rw[hk,v7 _ CV]
 norm_cast
 rw[fi,dz k]
theorem RA{l:List cG}(h:kO l):(g2 l).map (fun p:Nat=>bk (p:Int) (fj l))=l.map cG.rt:=by
 unfold g2
 rw[S3]
 exact List.map_congr_left fun x ab=>anZ (h x ab) (Nh ab) (nX h)
theorem Fb:∀{l:List cG},kO l->ou l->(ai (fj l)).length<=4*l.length+1
 |[],_,_=>mG bC
 |x::l,h,bq=>by
  have ad:=Fb (l:=l) (fun y aB=>h y (.tail _ aB)) fun y aB=>bq y (.tail _ aB)
  have af:=(sc (h x (.head _))).2.2.1
  have aV:(ai (aN x.den)).length<=4:=by rw[<-af];exact(bq x (.head _)).2
  have:=rr aV ad
  rw[lP]
  exact cY this I
theorem ZV{k:Nat}:∀{ps:List Nat},(∀p∈ps,(ai p).length<=k)->(ai ps.sum).length<=k+ps.length
 |[],_=>by rw[S',l5];exact ep _
 |p::ps,h=>by
  have ad:=ZV (k:=k) (ps:=ps) fun q bS=>h q (.tail _ bS)
  rw[p6,lP]
  exact Qm (k:=k+ps.length) (cY (h p (.head _)) (Mp _ _)) ad
theorem anX{l:List cG}(h:kO l)(bq:ou l):∀p∈g2 l,(ai p).length<=4*l.length+5:=fun p ap=>by
 obtain⟨x,ab,rfl⟩:=rW.1 ap
 have af:=(sc (h x ab)).2.1
 have aV:(ai (aN x.num)).length<=4:=by rw[<-af];exact(bq x ab).1
 have fL:(ai (fj l / aN x.den)).length<=4*l.length+1:=cY (lD (rZ _ _)) (Fb h bq)
 exact cY (rr aV fL) I
theorem j2(l:List cG):(g2 l).length=l.length:=g6 _
theorem Zk{l:List cG}(h:kO l)(bq:ou l):(ai (g2 l).sum).length<=5*l.length+5:=by
 have:=ZV (anX h bq)
 rw[j2] at this;omega
def g1 (l:List cG):Int:=if l.length<1\/10<l.length then 3 else if ts l=0 then(if(g2 l).sum=fj l then 0 else 14) else ts l
theorem Rw{l:List cG}(h:l.length<1\/10<l.length):g1 l=3:=bj h
theorem HQ{l:List cG}(h:¬(l.length<1\/10<l.length))(af:ts l≠0):g1 l=ts l:=by unfold g1;rw[bd h,bd af]
theorem Rx{l:List cG}(h:¬(l.length<1\/10<l.length))(af:kO l)(aV:(g2 l).sum≠fj l):g1 l=14:=by unfold g1;rw[bd h,bj (NQ af),bd aV]
theorem Zg{l:List cG}(h:¬(l.length<1\/10<l.length))(af:kO l)(aV:(g2 l).sum=fj l):g1 l=0:=by unfold g1;rw[bd h,bj (NQ af),bj aV]
theorem UW:∀{l:List cG},ts l=0->kO l
 |[],_=>fun x ab=>by cases ab
 |x::l,h=>by
  by_cases q:lp x=0
  ·rw[NP q] at h
   intro y aB
   rcases gb.1 aB with e|e
   ·rw[e];exact q
   ·exact UW h y e
  ·exact absurd ((bd q).symm.trans h) q
theorem sR{l:List cG}(h:g1 l=0):1<=l.length/\l.length<=10/\kO l/\(g2 l).sum=fj l:=by
 by_cases q:l.length<1\/10<l.length
 ·rw[Rw q] at h;cases h
 ·by_cases aU:ts l=0
  ·have af:=UW aU
   by_cases b0:(g2 l).sum=fj l
   ·exact⟨I,I,af,b0⟩
   ·rw[Rx q af b0] at h;cases h
  ·rw[HQ q aU] at h;exact absurd h aU
theorem Ni{x:cG}:∀{l:List cG},fj (l++[x])=fj l*aN x.den
 |[]=>by show aN x.den*1=1*aN x.den;rw[gT,iL]
 |y::l=>by
  show aN y.den*fj (l++[x])=aN y.den*fj l*aN x.den
  rw[Ni,fi]
theorem anY{x:cG}{s k:Nat}(h:lp x=0)(aq:aN x.den ∣ s):shr (s*k) x=shr s x*k:=by
 obtain⟨_,_,_,aJ⟩:=sc h
 have CV:0<aN x.den:=aJ.1
 obtain⟨j,bf⟩:=aq
 unfold shr
 rw[bf,fi,v7 _ CV,v7 _ CV,fi]
theorem ZW(k:Nat)(f g:cG->Nat):∀{l:List cG},(∀x∈l,f x=g x*k)->(l.map f).sum=(l.map g).sum*k
 |[],_=>by rw[List.map_nil,List.map_nil,S',j8]
 |x::l,h=>by
  rw[uF,uF,p6,p6,c3,h x (.head _),ZW k f g fun y aB=>h y (.tail _ aB)]
theorem an1{x:cG}{l:List cG}(h:kO l)(ab:lp x=0):(g2 (l++[x])).sum=(g2 l).sum*aN x.den+aN x.num*fj l:=by
 unfold g2
 rw[Mg,List.sum_append,List.map_singleton,List.sum_singleton,Ni]
 rw[ZW (aN x.den) (shr (fj l*aN x.den)) (shr (fj l)) fun y aB=>anY (h y aB) (Nh aB)]
 obtain⟨_,_,_,aJ⟩:=sc ab
 have CV:0<aN x.den:=aJ.1
 unfold shr
 rw[tc _ CV]
def j3(l:List cG):cE:=bk ((g2 l).sum:Int) (fj l)
theorem apa:j3 []=⟨0,1⟩:=rA (d:=1) Nat.one_pos
theorem LM{l:List cG}(h:kO l):(j3 l).g4:=im (nX h)
theorem apc{x:cG}{l:List cG}(h:kO l)(ab:lp x=0):bk ((j3 l).z*(x.rt.d:Nat)+x.rt.z*((j3 l).d:Nat)) ((j3 l).d*x.rt.d)=j3 (l++[x]):=by
 obtain⟨_,_,_,aJ⟩:=sc ab
 have ad:=Hk (X:=((g2 l).sum:Int)) (Y:=x.rt.z) (nX h) aJ.1
 rw[Bg aJ] at ad
 unfold j3
 rw[ad,an1 h ab,Ni]
 congr 1
theorem HY{l:List cG}(h:kO l):¬(j3 l).z<0:=qD (nX h)
theorem aaa{l:List cG}(h:kO l)(bq:ou l)(aD:l.length<=10):(ai (j3 l).z.natAbs).length<=100/\(ai (j3 l).d).length<=100:=by
 have ad:=Fb h bq
 have af:=Zk h bq
 have aV:=K8 (z:=((g2 l).sum:Int)) (nX h)
 rw[hP] at aV
 exact⟨cY (lD aV.1) I,cY (lD aV.2) I⟩
theorem UI{x:cG}(h:lp x=0)(bq:x.num.length<=4/\x.den.length<=4):(ai x.rt.z.natAbs).length<=4/\(ai x.rt.d).length<=4:=by
 obtain⟨_,ad,af,_⟩:=sc h
 exact⟨by show(ai (aN x.num)).length<=4;rw[<-ad];exact bq.1,by show(ai (aN x.den)).length<=4;rw[<-af];exact bq.2⟩
theorem aab{l:List cG}(h:kO l):sU ((j3 l).z*((1:Nat):Int) -1*((j3 l).d:Int))=0↔(g2 l).sum=fj l:=by
 have ag:=nX h
 have ad:=sL (z:=((g2 l).sum:Int)) ag
 have aq:0<(j3 l).d:=(LM h).1
 have e:sU ((j3 l).z*((1:Nat):Int) -1*((j3 l).d:Int))=0↔(j3 l).z=((j3 l).d:Int):=by
  unfold sU
  split
  ·omega
  ·split<;>omega
 rw[e]
 change (j3 l).z*(fj l:Int)=((g2 l).sum:Int)*((j3 l).d:Int) at ad
 constructor
 ·intro q
  rw[q,kC] at ad
  have:=Er I ad
  omega
 ·intro q
  rw[q,kC ((fj l:Nat):Int)] at ad
  exact Er I ad
def rP(l k:List cG):cE:=bk (gG (fj l) (fj k) (g2 l) (g2 k):Int) (fj l*fj k*2)
open Classical in
def qc (l k:List cG):Int:=if g1 l=0 then(if g1 k=0 then(if l.length=k.length then 0 else 10) else g1 k) else g1 l
theorem Jb{l k:List cG}(h:g1 l≠0):qc l k=g1 l:=bd h
theorem Jc{l k:List cG}(h:g1 l=0)(af:g1 k≠0):qc l k=g1 k:=by unfold qc;rw[bj h,bd af]
theorem TO{l k:List cG}(h:g1 l=0)(af:g1 k=0)(aV:l.length≠k.length):qc l k=10:=by unfold qc;rw[bj h,bj af,bd aV]
theorem TP{l k:List cG}(h:g1 l=0)(af:g1 k=0)(aV:l.length=k.length):qc l k=0:=by unfold qc;rw[bj h,bj af,bj aV]
theorem ys{l:List cG}(h:g1 l=0)(bq:ou l):(ai (fj l)).length<=41:=by
 obtain⟨ad,af,aV,_⟩:=sR h
 have:=Fb aV bq
 omega
theorem aaB{l k:List cG}(h:g1 l=0)(af:g1 k=0):0<fj l*fj k*2:=iW (iW (nX (sR h).2.2.1) (nX (sR af).2.2.1)) bC
theorem Sc{l k:List cG}(h:g1 l=0)(af:g1 k=0)(bq:ou l)(fL:ou k):(ai (rP l k).z.natAbs).length<=100/\(ai (rP l k).d).length<=100:=by
 have a7:=ys h bq
 have a0:=ys af fL
 have bJ:(ai (fj l*fj k)).length<=41+41:=rr a7 a0
 have cO:(ai (fj l*fj k*2)).length<=41+41+1:=rr bJ (mG bC)
 have gj:=Sd (sa:=fj l) (cf:=fj k) (ps:=g2 l) (dJ:=g2 k)
 rw[(sR h).2.2.2,(sR af).2.2.2,dz (fj k),<-Nat.mul_two] at gj
 have jJ:=K8 (z:=(gG (fj l) (fj k) (g2 l) (g2 k):Int)) (aaB h af)
 rw[hP] at jJ
 exact⟨cY (lD (cY jJ.1 gj)) I,cY (lD jJ.2) I⟩
open Classical in
def vK (l:List cG)(bits:Int):Int:=if bits<1\/30<bits then 2 else g1 l
theorem Rr{l:List cG}{bits:Int}(h:bits<1\/30<bits):vK l bits=2:=bj h
theorem Rs{l:List cG}{bits:Int}(h:¬(bits<1\/30<bits)):vK l bits=g1 l:=bd h
end
end Go.Opn
set_option maxRecDepth 100000
set_option maxHeartbeats 8000000
set_option linter.unusedSimpArgs false
namespace Go.Opn
noncomputable section
open Go.Cre Go.RowKit Go.Proofs
def hj(J:an)(x:cG)(cs:List Value):Prop:=∃v1 v2,cs=[.bool x.neg,v1,v2]/\p' J x v1 v2
theorem hj.mono{J ah:an}(hle:J.le ah){x:cG}{cs:List Value}(h:hj J x cs):hj ah x cs:=by
 obtain⟨v1,v2,ad,af⟩:=h;exact⟨v1,v2,ad,af.mono hle⟩
theorem p'.ok{J:an}{x:cG}{v1 v2:Value}(h:p' J x v1 v2)(ab:lp x=0):fO J x.rt v1 v2:=by
 obtain⟨_,ad,af,_⟩:=sc ab;exact h.zg ⟨by rw[ad];exact z5 _,by rw[af];exact z5 _⟩
theorem yw{J:an}{e:TypeId}{v:Value}{l:List cG}(h:ew J e 3 (hj J) v l):ou l:=fun x ab=>by
 obtain⟨cs,_,af⟩:=h;obtain⟨i,ar⟩:=zJ.1 ab;obtain⟨v1,v2,_,av⟩:=af i x ar;exact⟨av.fU,av.cI⟩
theorem Yr{l:List cG}:kO (l.take 0):=by
 rw[fh];intro x ab;cases ab
theorem ZB{l:List cG}{i:Nat}(h:ou l):ou (l.take i):=fun x ab=>h x (x' ab)
theorem aoY{l:List cG}{i:Nat}{x:cG}(h:l[i]?=some x):l.take (i+1)=l.take i++[x]:=by rw[oz,h];rfl
theorem Zl{x:cG}:¬x.rt.z<0:=Int.not_lt.2 (o6 _)
section
variable {Q:dD Tryz.prog}{g0:Nat}{J:an}
theorem Rv{l:List cG}{b:Option Addr}{c:Nat}(h:ew J 34 3 (hj J) (.slice b l.length c) l)(ke:l.length<=9223372036854775807):Fn (a1 Q g0) 24 [.slice b l.length c] [] J (fun u m' ah=>J.le ah/\m'=[]/\u=.int .i64 (g1 l)):=by
 have kA:addrEq b b=true:=h.addr;obtain⟨_,g'⟩:=h.at;have mf:=yw h;refine Fn.cr (cu Tryz.func24) rfl rfl fun H=>?_;refine rg ?_;refine U V.au ?_;refine a3 ?_;refine eP [0] ?_;refine ao ?_;refine' ae.hf 0 [(13,.bool (decide ((l.length<1\/10<l.length))))] ?m0 ?m2;case m0=>
  refine ae.region ?_;refine al ?_;refine U V.bb ?_;refine U V.ay ?_;refine ft 9 (fun jD=>?_) fun jD=>?_
  ·refine bs ?_;refine bs ?_;refine bs ?_;refine U V.bt ?_;refine a3 ?_;refine'⟨⟨_,rfl,⟨?Ha,rfl,trivial⟩⟩,bx _,rfl⟩;case Ha=>first|exact fw rfl I|exact fu rfl I|exact fv rfl I|exact fE rfl I
  ·refine bo V.ay ?_;refine bo V.h7 ?_;refine bo V.bb ?_;refine U V.bt ?_;refine a3 ?_;refine'⟨⟨_,rfl,⟨?Ha,rfl,trivial⟩⟩,bx _,rfl⟩;case Ha=>first|exact fw rfl I|exact fu rfl I|exact fv rfl I|exact fE rfl I
 case m2=>
  refine ao ?_;refine If (fun q1=>?_) fun q1=>?_
  ·have he:=Rw q1;refine rg ?_;refine U V.au ?_;refine aA ?_;refine ae.ret ?_;refine'⟨.inr rfl,rfl,_,[],.tmp rfl .nil,br _,?_⟩;first
    |exact⟨an.le.refl _,rfl,by rw[he];rfl⟩
    |exact⟨c2.trans bi,rfl,by rw[he];rfl⟩
    |exact⟨(c2.trans bi).trans cn,rfl,by rw[he];rfl⟩
  ·refine ao ?_;refine ae.skip ?_;refine rg ?_;refine bN (G:=Ee (z:=0) bC) (h:=?_);rintro v' m' bK hle ⟨aK,rfl,ev,gH,rfl,b4⟩;have cp:=b4;obtain⟨iN,fp,rfl,mM⟩:=b4.n.bG;obtain⟨kr,cl,rfl,nb⟩:=b4.d.bG;refine' W.step rfl (.of (gx rfl rfl rfl (lb Q g0) rfl rfl rfl fun cU=>?_));refine e9 ?_;refine a2 ?_;refine U V.au ?_;refine aA ?_;refine ae.block ?_;refine' ae.dO (l':=[(4,.int .i64 ((0):Int)),(0,_),(3,_)]) ⟨?kR,rfl,rfl,trivial⟩ (bx _) ?_;case kR=>first|exact bg|exact aa some (aa (Value.int .u64) I)|exact aa some (aa (Value.int .u32) I)|exact aa some (aa (Value.int .i64) I)
   refine ao ?_;refine' ae.e2 (fun(a6:Nat×Value×Value×an)=>match a6 with|(i,bm,bW,dw)=>⟨[(4,.int .i64 (i:Int))],[(cU,.row [.bool false,bm,bW] 34)],dw,i<=l.length/\J.le dw/\kO (l.take i)/\fO dw (j3 (l.take i)) bm bW,l.length -i⟩) ⟨0,.slice iN _ fp,.slice kr _ cl,bK⟩ ?ag ?bD
   case ag=>exact⟨ep _,aK,Yr,by rw[fh,apa];exact cp⟩
   case bD=>
    rintro⟨i,bm,bW,dw⟩ hinv;try simp only at hinv
    obtain⟨ar,c2,cc,b4⟩:=hinv;have nu:=b4;obtain⟨cZ,db,rfl,b0⟩:=b4.n.bG;obtain⟨dE,dZ,rfl,dN⟩:=b4.d.bG;refine rg ?_;refine al ?_;refine U V.bb ?_;refine aA ?_;refine If (fun kE=>?_) fun kE=>?_
    ·obtain⟨a,off,cells,b3,rfl,iZ,kv⟩:=g' I;obtain⟨x,cs,ab,h4,pu,v1,v2,rfl,c0⟩:=kv i I I;rw[jy] at ab;have iZ:=c2 _ _ iZ;have jt:=c0.mono c2;obtain⟨bQ,bH,rfl⟩:=c0.n.form;obtain⟨bL,bM,rfl⟩:=c0.d.form;have wX:=pu 0 _ bC rfl;refine dW ?_;refine ao ?_;refine ae.block ?_;refine rg ?_;refine al ?_;refine U V.bh ?_;refine U V.hT ?_;refine bN (G:=ane jt) (h:=?_);rintro v' m' dT hle ⟨bi,rfl,rfl⟩;have ar0:=bi _ _ iZ;refine U V.au ?_;refine a3 ?_;refine eP [0,3,4,5] ?_;refine ao ?_;refine' ae.hf 0 [(27,.bool (decide ((nc x≠0))))] ?ad9 ?ae0;case ad9=>
      refine ae.region ?_;refine U V.ay ?_;refine U V.bb ?_;refine a3 ?_;refine'⟨⟨_,rfl,⟨?QQ,rfl,rfl,rfl,rfl,trivial⟩⟩,bx _,rfl⟩;case QQ=>first|exact fw rfl I|exact fu rfl I|exact fv rfl I|exact fE rfl I
     case ae0=>
      refine ao ?_;refine If (fun hD=>?_) fun hD=>?_
      ·
        have ij:=NB hD;have he:=HQ q1 (by rw[wE cc ab (by rw[ij];exact hD),ij];exact hD);rw[wE cc ab (by rw[ij];exact hD),ij] at he;refine rg ?_;refine al ?_;refine aA ?_;refine ae.ret ?_;refine'⟨.inr rfl,rfl,_,[],.tmp rfl .nil,br _,?_⟩;first
         |exact⟨an.le.refl _,rfl,by rw[he];rfl⟩
         |exact⟨c2.trans bi,rfl,by rw[he];rfl⟩
         |exact⟨(c2.trans bi).trans cn,rfl,by rw[he];rfl⟩
      ·
        have hD:nc x=0:=jh fun q=>hD q;refine fy ?_;refine al ?_;refine U V.bh ?_;refine U V.cJ ?_;refine U V.cg ?_;refine aA ?_;refine If (fun E0=>?_) fun E0=>?_
        ·have ij:=NA hD E0;have he:=HQ q1 (by rw[wE cc ab (by rw[ij];decide),ij];decide);rw[wE cc ab (by rw[ij];decide),ij] at he;refine rg ?_;refine U V.au ?_;refine aA ?_;refine ae.ret ?_;refine'⟨.inr rfl,rfl,_,[],.tmp rfl .nil,br _,?_⟩;first
          |exact⟨an.le.refl _,rfl,by rw[he];rfl⟩
          |exact⟨c2.trans bi,rfl,by rw[he];rfl⟩
          |exact⟨(c2.trans bi).trans cn,rfl,by rw[he];rfl⟩
        ·have w5:x.neg=false:=E0;have ij:=UH hD w5;have Kg:kO (l.take (i+1)):=HX (P:=fun y=>lp y=0) cc ab ij;have PN:(l.take i).length<=10:=by rw[dY];omega
         have ql:=aaa cc (ZB mf) PN;have ls:=UI ij (mf x (jS ab));have Gv:=HY Kg;refine dW ?_;refine ao ?_;refine ae.draw rfl (by kernel_rfl) (a':=[.val 0,.val 1,.val 2,.val 3,.val 4,.bR 5,.bR 6]) (by kernel_rfl) ?_;refine aT rfl V.hT ?_;refine eg ?_;refine aT rfl V.bh ?_;refine aT rfl V.hT ?_;refine bp.iR ?_;refine' bc.dA rfl rfl rfl rfl rfl rfl rfl rfl rfl dx (HK (r:=j3 (l.take i)) (s:=x.rt) (fx (HY cc)).symm (by rw[w5,fx Zl]) (nu.mono bi) ((jt.mono bi).ok ij) (LM cc).1 (sc ij).2.2.2.1 I I I I) ?_;rintro v' m' ga hle ⟨cn,rfl,ev,gH,rfl,b4⟩;rw[apc cc ij,<-aoY ab] at b4 ⊢;have gC:=b4;obtain⟨fI,gV,rfl,gl⟩:=b4.n.bG;obtain⟨gz,e7,rfl,iC⟩:=b4.d.bG;refine bc.iQ (fun x ab=>iV (f:=fun x=>(x.f,x.b2)) ab) ?_;refine mw rfl ?_;refine bp.nil ?_;rw[fx Gv];refine rg ?_;refine U V.ay ?_;refine U V.aY ?_;refine U V.au ?_;refine a3 ?_;refine fl ⟨i+1,.slice fI _ gV,.slice gz _ e7,ga⟩ ?_ (hm:=.refl _);exact⟨I,c2.trans (bi.trans cn),Kg,gC⟩
    ·have tN:l.take i=l:=dd I;have oM:kO l:=by
        have:=cc;rw[tN] at this;exact this
     have WA:(g2 (l.take i)).sum=(g2 l).sum/\fj (l.take i)=fj l:=⟨by rw[tN],by rw[tN]⟩;have vn:=aab cc;rw[WA.1,WA.2] at vn;have PN:(l.take i).length<=10:=by rw[dY];omega
     have ql:=aaa cc (ZB mf) PN;have Ve:(ai 1).length<=1:=mG bC;have Gv:=HY cc;refine ao ?_;refine ae.exit ?_;refine ao ?_;refine ae.draw rfl (by kernel_rfl) (a':=[.val 0,.bR 1,.b9 [0],.bR 2,.val 3]) (by kernel_rfl) ?_;refine aT rfl V.hT ?_;refine bp.iR ?_;refine' bc.dA rfl rfl rfl rfl rfl rfl rfl rfl rfl dx (Ee (z:=1) bC) ?_;rintro v' m' dT hle ⟨bi,rfl,ev,gH,rfl,e'⟩;have cp:=e';obtain⟨mB,hE,rfl,nH⟩:=e'.n.bG;obtain⟨mW,jU,rfl,oq⟩:=e'.d.bG;refine bc.b9 eH ?_;refine' bc.dA rfl rfl rfl rfl rfl rfl rfl rfl rfl (de (eI rfl) dx) (YA (r:=j3 (l.take i)) (s:=⟨1,1⟩) (nu.mono bi) cp (LM cc).1 Nat.one_pos I I (by show(ai 1).length<=20000;omega) (by show(ai 1).length<=20000;omega)) ?_;rintro v' m' ga hle ⟨cn,rfl,rfl⟩;refine bc.iQ (fun x ab=>iV (f:=fun x=>(x.f,x.b2)) ab) ?_;refine aT rfl V.bb ?_;refine bp.nil ?_;refine ao ?_;refine If (fun E2=>?_) fun E2=>?_
     ·have he:=Rx q1 oM (fun q=>E2 (vn.2 q));refine rg ?_;refine U V.au ?_;refine aA ?_;refine ae.ret ?_;refine'⟨.inr rfl,rfl,_,[],.tmp rfl .nil,br _,?_⟩;first
        |exact⟨an.le.refl _,rfl,by rw[he];rfl⟩
        |exact⟨c2.trans bi,rfl,by rw[he];rfl⟩
        |exact⟨(c2.trans bi).trans cn,rfl,by rw[he];rfl⟩
     ·have he:=Zg q1 oM (vn.1 (jh fun q=>E2 q));refine fy ?_;refine U V.au ?_;refine aA ?_;refine ae.ret ?_;refine'⟨.inr rfl,rfl,_,[],.tmp rfl .nil,br _,?_⟩;first
        |exact⟨an.le.refl _,rfl,by rw[he];rfl⟩
        |exact⟨c2.trans bi,rfl,by rw[he];rfl⟩
        |exact⟨(c2.trans bi).trans cn,rfl,by rw[he];rfl⟩
end
theorem fO.aah{J ah:an}{r s:cE}{v1 v2 bm bW:Value}{x y:Bool}(h:fO J r v1 v2)(fR:fO ah s bm bW)(hle:J.le ah)(ab:x=decide (r.z<0))(aB:y=decide (s.z<0))(e:Value.agg #[.bool x,v1,v2]=Value.agg #[.bool y,bm,bW]):r=s:=by
 subst ab aB;exact h.xW fR hle e
theorem fO.adp{J:an}{r s:cE}{v1 v2:Value}(h:fO J r v1 v2)(e:r=s):fO J s v1 v2:=e▸h
theorem amF{r cW s dC:cE}(ad:r=cW)(af:s=dC):bk (r.z*s.d+s.z*r.d) (r.d*s.d)=bk (cW.z*dC.d+dC.z*cW.d) (cW.d*dC.d):=by rw[ad,af]
theorem xo{n:Int}{d k:Nat}(aq:0<d)(ad:(ai n.natAbs).length<=k)(af:(ai d).length<=k):(ai (bk n d).z.natAbs).length<=k/\(ai (bk n d).d).length<=k:=by
 have aV:=K8 (z:=n) aq;exact⟨cY (lD aV.1) ad,cY (lD aV.2) af⟩
theorem hj.ok{J:an}{x:cG}{cs:List Value}(h:hj J x cs)(ab:lp x=0):oC J x.rt cs:=by
 obtain⟨v1,v2,rfl,av⟩:=h;refine⟨v1,v2,?_,av.ok ab⟩;show _=[Value.bool (decide (x.rt.z<0)),v1,v2];rw[fx Zl,(sc ab).1]
theorem ew.zg{J:an}{e:TypeId}{v:Value}{l:List cG}(h:ew J e 3 (hj J) v l)(cc:kO l):ew J e 3 (oC J) v ((g2 l).map fun p:Nat=>bk (p:Int) (fj l)):=by
 rw[RA cc];obtain⟨cs,ad,af⟩:=h;refine⟨cs,by rw[g6];exact ad,fun i r av=>?_⟩;rw[ko] at av;obtain⟨x,ab,rfl⟩:=qY.1 av;exact(af i x ab).ok (cc x (jS ab))
section
variable {Q:dD Tryz.prog}{g0:Nat}{J:an}
theorem acm{ps dJ:List Nat}{sa cf:Nat}{b b':Option Addr}{c c':Nat}(h:ew J 34 3 (oC J) (.slice b ps.length c) (ps.map fun p:Nat=>bk (p:Int) sa))(fR:ew J 34 3 (oC J) (.slice b' dJ.length c') (dJ.map fun p:Nat=>bk (p:Int) cf))(w':0<sa)(px:0<cf)(aI:(ai sa).length<=3000)(ak:(ai cf).length<=3000)(ap:ps.sum=sa)(bS:dJ.sum=cf)(aD:ps.length<=1000)(ke:ps.length=dJ.length):
 Fn (a1 Q g0) 30 [.slice b ps.length c,.slice b' dJ.length c'] [] J (r4 J (bk (gG sa cf ps dJ:Int) (sa*cf*2))):=by
 have kA:addrEq b b=true:=h.addr;have HM:addrEq b' b'=true:=fR.addr;obtain⟨_,g'⟩:=h.at;obtain⟨_,Ap⟩:=fR.at;rw[g6] at g' Ap;have cy:0<sa*cf:=iW w' px;have yE:(ai (sa*cf)).length<=6000:=rr aI ak;have oh:bk ((0:Nat):Int) (sa*cf)=⟨0,1⟩:=rA cy;have Of:(ai (sa*cf+sa*cf)).length<=6001:=Qm yE yE;have lz:∀i,(ai (gG sa cf (ps.take i) (dJ.take i))).length<=6001:=fun i=>by
  have:=aaI (sa:=sa) (cf:=cf) (ps:=ps) (dJ:=dJ) (i:=i);rw[ap,bS,dz cf sa] at this;exact cY (lD this) Of
 refine Fn.cr (cu Tryz.func30) rfl rfl fun H=>?_;refine rg ?_;refine' W.step rfl (.of (gx rfl rfl rfl (lb Q g0) rfl rfl rfl fun dn=>?_));refine a2 ?_;refine bN (G:=Ee (z:=0) bC) (h:=?_);rintro v' m' bK hle ⟨aK,rfl,ev,gH,rfl,b4⟩;have cp:=b4;obtain⟨MM,q2,rfl,YZ⟩:=b4.n.bG;obtain⟨MN,iw,rfl,Y0⟩:=b4.d.bG;refine' W.step rfl (.of (gx rfl rfl rfl (lb Q g0) rfl rfl rfl fun cK=>?_));refine e9 ?_;refine a2 ?_;refine U V.au ?_;refine aA ?_;refine ae.block ?_;refine' ae.dO (l':=[(6,.int .i64 ((0):Int)),(0,_),(1,_),(4,_),(5,_)]) ⟨?j4,rfl,rfl,rfl,rfl,trivial⟩ (bx _) ?_;case j4=>first|exact bg|exact aa some (aa (Value.int .u64) I)|exact aa some (aa (Value.int .u32) I)|exact aa some (aa (Value.int .i64) I)
 refine ao ?_;refine' ae.e2 (fun(a6:Nat×Value×Value×an)=>match a6 with|(i,bm,bW,dw)=>⟨[(6,.int .i64 (i:Int))],[(cK,.row [.bool false,bm,bW] 34),(dn,.row [.bool false,.slice none 0 0,.slice none 0 0] 34)],dw,i<=ps.length/\J.le dw/\fO dw (bk ((gG sa cf (ps.take i) (dJ.take i):Nat):Int) (sa*cf)) bm bW,ps.length -i⟩) ⟨0,.slice MM _ q2,.slice MN _ iw,bK⟩ ?ag ?bD
 case ag=>exact⟨ep _,aK,by rw[fh,fh];show fO bK (bk ((0:Nat):Int) (sa*cf)) _ _;rw[oh];exact cp⟩
 case bD=>
  rintro⟨i,bm,bW,dw⟩ hinv;try simp only at hinv
  obtain⟨ar,c2,b4⟩:=hinv;have nu:=b4;obtain⟨cZ,db,rfl,b0⟩:=b4.n.bG;obtain⟨dE,dZ,rfl,dN⟩:=b4.d.bG;refine rg ?_;refine al ?_;refine U V.bb ?_;refine aA ?_;refine If (fun kb=>?_) fun kb=>?_
  ·obtain⟨a,off,cells,b3,rfl,iZ,kv⟩:=g' I;obtain⟨r,cs,av,h4,pu,v1,v2,rfl,c0⟩:=kv i I I;rw[jy,ko] at av;obtain⟨p,n8,rfl⟩:=qY.1 av;have iZ:=c2 _ _ iZ;have jt:=c0.mono c2;obtain⟨bQ,bH,rfl,aX⟩:=c0.n.bG;obtain⟨bL,bM,rfl,aU⟩:=c0.d.bG;obtain⟨bV,fV,cells',aW,rfl,CM,F6⟩:=Ap I;obtain⟨cW,cN,yR,OO,O9,apm,apn,rfl,pp⟩:=F6 i I I;rw[jy,ko] at yR;obtain⟨q,AL,rfl⟩:=qY.1 yR;have CM:=c2 _ _ CM;have wM:=pp.mono c2;obtain⟨fI,gV,rfl,gl⟩:=pp.n.bG;obtain⟨gz,e7,rfl,iC⟩:=pp.d.bG;have AK:=cY (xr (jS n8)) (EB ap);have Pz:=cY (xr (jS AL)) (EB bS);have dR:=Se (sa:=sa) (cf:=cf) n8 AL;have yK:(ai ((p:Int)*cf+-(q:Int)*sa).natAbs).length<=6001:=by
    refine cY (lD ?_) (lz (i+1));rw[dR,nL,<-IA];omega
   have ev:=xo (n:=(p:Int)) w' (cY (lD AK) aI) aI;have uv:=xo (n:=(q:Int)) px (cY (lD Pz) ak) ak;have LX:(ai (-(bk (q:Int) cf).z).natAbs).length<=3000:=by rw[vZ];exact uv.1
   have Ih:=xo (n:=(gG sa cf (ps.take i) (dJ.take i):Int)) cy (lz i) (cY yE bC);have aaQ:=xo (n:=(((p:Int)*cf+-(q:Int)*sa).natAbs:Int)) cy yK (cY yE bC);have hU:=qD (X:=gG sa cf (ps.take i) (dJ.take i)) cy;have iH:=qD (X:=gG sa cf (ps.take (i+1)) (dJ.take (i+1))) cy;have jx:bk ((bk (p:Int) sa).z*(bk (q:Int) cf).d+-(bk (q:Int) cf).z*(bk (p:Int) sa).d) ((bk (p:Int) sa).d*(bk (q:Int) cf).d)=bk ((p:Int)*cf+-(q:Int)*sa) (sa*cf):=by
    have a7:=Yl (X:=(q:Int)) px;have a0:=Hk (X:=(p:Int)) (Y:=-(q:Int)) w' px;rw[<-a7] at a0;exact a0
   have pX:=Yi (X:=(p:Int)*cf+-(q:Int)*sa) cy;have pY:=Q3 (X:=(gG sa cf (ps.take i) (dJ.take i):Int)) (Y:=(((p:Int)*cf+-(q:Int)*sa).natAbs:Int)) cy;have BR:(gG sa cf (ps.take i) (dJ.take i):Int)+(((p:Int)*cf+-(q:Int)*sa).natAbs:Int)=(gG sa cf (ps.take (i+1)) (dJ.take (i+1)):Int):=by
    rw[dR,uz,nL,<-IA]
   rw[BR] at pY;have Kd:fO dw (⟨-(bk (q:Int) cf).z,(bk (q:Int) cf).d⟩:cE) (.slice fI (ai (bk (q:Int) cf).z.natAbs).length gV) (.slice gz (ai (bk (q:Int) cf).d).length e7):=⟨by show cM dw _ (-(bk (q:Int) cf).z).natAbs;rw[vZ];exact wM.n,wM.d⟩;refine dW ?_;refine ao ?_;refine ae.block ?_;refine ao ?_;refine ae.draw rfl (by kernel_rfl) (a':=[.val 0,.val 1,.val 2,.val 3,.val 4,.val 5,.val 6,.val 7,.val 8,.bR 9,.b9 [4,3,2,1,0],.bR 10,.b9 [0],.bR 11,.b9 [0],.bR 12,.bR 13]) (by kernel_rfl) ?_;refine aT rfl V.hT ?_;refine eg ?_;refine aT rfl V.bh ?_;refine aT rfl V.hT ?_;refine eg ?_;refine aT rfl V.bh ?_;refine aT rfl V.hT ?_;refine bp.iR ?_;refine' bc.dA rfl rfl rfl rfl rfl rfl rfl rfl rfl dx (QG wM) ?_;rintro v' m' ah hle ⟨rfl,rfl,rfl⟩;refine bc.b9 eH ?_;refine' bc.dA rfl rfl rfl rfl rfl rfl rfl rfl rfl (de (eI rfl) dx) (HK (s:=⟨-(bk (q:Int) cf).z,(bk (q:Int) cf).d⟩) rfl rfl jt Kd (im w').1 (im px).1 I I (by show(ai (-(bk (q:Int) cf).z).natAbs).length<=20000;omega) (by show(ai (bk (q:Int) cf).d).length<=20000;omega)) ?_;rintro v' m' bK aK ⟨_,rfl,du,dt,rfl,cp⟩;rw[jx] at cp;have oH:=cp;obtain⟨mB,hE,rfl,nH⟩:=cp.n.bG;obtain⟨mW,jU,rfl,oq⟩:=cp.d.bG;rw[jx];refine bc.b9 eH ?_;refine' bc.dA rfl rfl rfl rfl rfl rfl rfl rfl rfl (de (eI rfl) (de (eI rfl) dx)) (an6 oH) ?_;rintro v' m' ah hle ⟨rfl,rfl,rfl⟩;rw[pX];have eT:fO bK (bk (((p:Int)*cf+-(q:Int)*sa).natAbs:Int) (sa*cf)) (.slice mB _ hE) (.slice mW _ jU):=(by rw[<-pX];exact⟨oH.n,oH.d⟩);refine bc.b9 eH ?_;refine' bc.dA rfl rfl rfl rfl rfl rfl rfl rfl rfl (de (eI rfl) (de (fun _ aI=>r4.ag aK (by rw[<-jx];exact amF (fO.aah jt (nu.mono aK) aK rfl (by rw[fx hU]) (lL aI).1) (fO.aah Kd eT aK rfl rfl (lL aI).2)) rfl) (de (eI rfl) dx))) (HK (r:=bk (gG sa cf (ps.take i) (dJ.take i):Int) (sa*cf)) (s:=bk (((p:Int)*cf+-(q:Int)*sa).natAbs:Int) (sa*cf)) (by rw[fx hU]) rfl (nu.mono aK) eT (im cy).1 (im cy).1 I I I I) ?_
   rintro v' m' ga cn ⟨_,rfl,du,dt,rfl,e'⟩;rw[pY] at e';have gC:=e';obtain⟨iN,fp,rfl,mM⟩:=e'.n.bG;obtain⟨kr,cl,rfl,nb⟩:=e'.d.bG;rw[pY];refine bc.iQ (fun x ab=>iV (f:=fun x=>(x.f,x.b2)) ab) ?_;refine mw rfl ?_;refine bp.nil ?_;rw[fx iH];refine rg ?_;refine U V.ay ?_;refine U V.aY ?_;refine U V.au ?_;refine a3 ?_;refine fl ⟨i+1,.slice iN _ fp,.slice kr _ cl,ga⟩ ?_ (hm:=.refl _);exact⟨I,((c2.trans aK).trans cn),gC⟩
  ·obtain rfl:i=ps.length:=I
   have Ih:=xo (n:=(gG sa cf (ps.take ps.length) (dJ.take ps.length):Int)) cy (lz ps.length) (cY yE bC);have jC:gG sa cf (ps.take ps.length) (dJ.take ps.length)=gG sa cf ps dJ:=by rw[uH,show dJ.take ps.length=dJ from dd I]
   have hU:=qD (X:=gG sa cf (ps.take ps.length) (dJ.take ps.length)) cy;have arQ:(ai 2).length<=1:=mG bC;have Ve:(ai 1).length<=1:=mG bC;refine ao ?_;refine ae.exit ?_;refine ao ?_;refine ae.draw rfl (by kernel_rfl) (a':=[.val 0,.bR 1,.b9 [0],.bR 2,.bR 3]) (by kernel_rfl) ?_;refine aT rfl V.hT ?_;refine bp.iR ?_;refine' bc.dA rfl rfl rfl rfl rfl rfl rfl rfl rfl dx (Ee (z:=2) bC) ?_;rintro v' m' bK hle ⟨aK,rfl,ev,gH,rfl,e'⟩;have cp:=e';obtain⟨mB,hE,rfl,nH⟩:=e'.n.bG;obtain⟨mW,jU,rfl,oq⟩:=e'.d.bG;refine bc.b9 eH ?_;refine' bc.dA rfl rfl rfl rfl rfl rfl rfl rfl rfl (de (eI rfl) dx) (ams (s:=⟨2,1⟩) (nu.mono aK) cp (im cy).1 bC I I (by show(ai 2).length<=20000;omega) (by show(ai 1).length<=20000;omega) Nat.one_pos) ?_;rintro v' m' ga hle ⟨cn,rfl,du,dt,rfl,e'⟩;have gC:=e';obtain⟨iN,fp,rfl,mM⟩:=e'.n.bG;obtain⟨kr,cl,rfl,nb⟩:=e'.d.bG;refine bc.iQ (fun x ab=>iV (f:=fun x=>(x.f,x.b2)) ab) ?_;refine mw rfl ?_;refine bp.nil ?_;refine ao ?_;refine ae.ret ?_;refine'⟨.inr rfl,rfl,_,[],.cell rfl (by repeat first|exact .head _|refine .tail _ ?_|refine eF _ ?_) (fA (dm rfl) rfl) (.nil),br _,?_⟩;have e:bk ((bk (gG sa cf (ps.take ps.length) (dJ.take ps.length):Int) (sa*cf)).z*(((⟨2,1⟩:cE).d:Nat):Int)) ((bk (gG sa cf (ps.take ps.length) (dJ.take ps.length):Int) (sa*cf)).d*(⟨2,1⟩:cE).z.natAbs)=bk (gG sa cf ps dJ:Int) (sa*cf*2):=by rw[jC];exact Yj cy
   exact⟨(c2.trans aK).trans cn,rfl,_,_,CC e,gC.adp e⟩
end
section
variable {K:ef}{J uB:an}{fn:Func}{E:cC}{m m':a8}{ct:List PanicEntry}{lg:Value->a8->an->Prop}{mz:List PanicEntry->a8->an->Prop}
theorem oY(h:mz ct [] uB)(aq:E.ds.ds=[]:=by exact rfl):Leaves K fn (.panic ct) E m uB lg mz:=⟨_,rfl,.inl ⟨aq,.inr ⟨_,[],rfl,br _,h⟩⟩⟩
end
def abO(J:an)(e:Int)(ct:List PanicEntry)(m':a8)(ah:an):Prop:=m'=[]/\J.le ah/\e≠0/\ct=[{v:=.iface 87 (.agg #[.int .i64 e]),recovered:=false}]
theorem apb{l:List cG}(h:kO l):jq ((j3 l).z.natAbs*(⟨((1:Nat):Int),1⟩:cE).d) ((⟨((1:Nat):Int),1⟩:cE).z.natAbs*(j3 l).d)=0↔(g2 l).sum=fj l:=by
 rw[Nc,<-aab h];have:=HY h;show(j3 l).z.natAbs*1=1*(j3 l).d↔_;rw[gT,iL];unfold sU;split
 ·omega
 ·split<;>omega
section
variable {Q:dD Tryz.prog}{g0:Nat}{J:an}
theorem LE{fn:Func}{e:Exit}{E:cC}{m m':a8}{vs:List Value}{lg:Value->a8->an->Prop}{mz:List PanicEntry->a8->an->Prop}(ap:lg (tZ vs) m' J)(he:KR e=some .returning:=by exact rfl) (aq:E.ds.ds=[]:=by exact rfl) (av:pa (a1 Q g0).P E m J fn.results.toList vs:=by first|exact .nil|exact .tmp rfl .nil|exact Bt .nil) (ag:m'.Sublist m:=by first|exact .refl _|exact br _):Leaves (a1 Q g0) fn e E m J lg mz:=⟨.returning,he,.inl ⟨aq,.inl ⟨rfl,vs,m',av,ag,ap⟩⟩⟩
theorem Rt{l:List cG}{b:Option Addr}{c:Nat}{e:TypeId}(cB:J 2=some (b7 .u8 pT,e))(aF:Nat.blt 2 (a1 Q g0).g0=true)(h:ew J 34 3 (hj J) (.slice b l.length c) l)(ke:l.length<=1000):
 s' (a1 Q g0) 23 [.slice b l.length c] [] J (fun u m' ah=>J.le ah/\m'=[]/\g1 l=0/\∃b' c',u=.slice b' l.length c'/\ew ah 67 3 (mP ah) (.slice b' l.length c') ((g2 l).map fun p:Nat=>bk (p:Int) (fj l))) (abO J (g1 l)):=by
 have kA:addrEq b b=true:=h.addr;obtain⟨_,g'⟩:=h.at;have mf:=yw h;refine s'.cr (cu Tryz.func23) rfl rfl fun H=>?_;refine rg ?_;refine U V.au ?_;refine a3 ?_;refine eP [0] ?_;refine ao ?_;refine' ae.hf 0 [(14,.bool (decide ((l.length<1\/10<l.length))))] ?m0 ?m2;case m0=>
  refine ae.region ?_;refine al ?_;refine U V.bb ?_;refine U V.ay ?_;refine ft 10 (fun jD=>?_) fun jD=>?_
  ·refine bs ?_;refine bs ?_;refine bs ?_;refine U V.bt ?_;refine a3 ?_;refine'⟨⟨_,rfl,⟨?Hb,rfl,trivial⟩⟩,bx _,rfl⟩;case Hb=>first|exact fw rfl I|exact fu rfl I|exact fv rfl I|exact fE rfl I
  ·refine bo V.ay ?_;refine bo V.h7 ?_;refine bo V.bb ?_;refine U V.bt ?_;refine a3 ?_;refine'⟨⟨_,rfl,⟨?Hb,rfl,trivial⟩⟩,bx _,rfl⟩;case Hb=>first|exact fw rfl I|exact fu rfl I|exact fv rfl I|exact fE rfl I
 case m2=>
  refine ao ?_;refine If (fun gJ=>?_) fun gJ=>?_
  ·have he:=Rw gJ;refine rg ?_;refine U V.kW ?_;refine U V.GN ?_;refine' W.panic rfl rfl rfl ?_;first
    |exact oY ⟨rfl,an.le.refl _,by rw[he];decide,by rw[he]⟩
    |exact oY ⟨rfl,c2.trans bi,by rw[he];exact mc,by rw[he]⟩
    |exact oY ⟨rfl,c2.trans bi,by rw[he];decide,by rw[he]⟩
    |exact oY ⟨rfl,c2.trans (aK.trans (bi.trans (cn.trans eL))),by rw[he];decide,by rw[he]⟩
  ·refine ao ?_;refine ae.skip ?_;refine rg ?_;refine al ?_;refine aA ?_;refine ae.block ?_;refine' ae.dO (l':=[(19,.int .i64 ((0):Int)),(0,_),(17,_),(18,_)]) ⟨?aaK,rfl,rfl,rfl,trivial⟩ (bx _) ?_;case aaK=>first|exact bg|exact aa some (aa (Value.int .u64) I)|exact aa some (aa (Value.int .u32) I)|exact aa some (aa (Value.int .i64) I)
   refine ao ?_;refine' ae.e2 (fun(a6:Nat×an)=>match a6 with|(i,dw)=>⟨[(19,.int .i64 (i:Int))],[],dw,i<=l.length/\J.le dw/\kO (l.take i),l.length -i⟩) ⟨0,J⟩ ?ag ?bD
   case ag=>exact⟨ep _,an.le.refl _,Yr⟩
   case bD=>
    rintro⟨i,dw⟩ hinv;try simp only at hinv
    obtain⟨ar,c2,cc⟩:=hinv;refine rg ?_;refine U V.bb ?_;refine aA ?_;refine If (fun iw=>?_) fun iw=>?_
    ·obtain⟨a,off,cells,b3,rfl,iZ,kv⟩:=g' I;obtain⟨x,cs,ab,h4,pu,v1,v2,rfl,c0⟩:=kv i I I;rw[jy] at ab;have iZ:=c2 _ _ iZ;have jt:=c0.mono c2;obtain⟨bQ,bH,rfl⟩:=c0.n.form;obtain⟨bL,bM,rfl⟩:=c0.d.form;refine dW ?_;refine ao ?_;refine ae.block ?_;refine rg ?_;refine U V.bh ?_;refine U V.hT ?_;refine' W.step rfl (.of (gx rfl rfl rfl (lb Q g0) rfl rfl rfl fun dn=>?_));refine e9 ?_;refine a2 ?_;refine U V.hT ?_;refine bN (G:=anf (c2 _ _ cB) aF jt) (h:=?_);rintro v' m' dT hle ⟨rfl,rfl,bi⟩;refine U V.au ?_;refine a3 ?_;refine eP [0,4,5,17,18,19] ?_;refine ao ?_;refine' ae.hf 0 [(26,.bool (decide ((nc x≠0))))] ?Nm ?Nx;case Nm=>
      refine ae.region ?_;refine U V.ay ?_;refine U V.bb ?_;refine a3 ?_;refine'⟨⟨_,rfl,⟨?ald,rfl,rfl,rfl,rfl,rfl,rfl,trivial⟩⟩,bx _,rfl⟩;case ald=>first|exact fw rfl I|exact fu rfl I|exact fv rfl I|exact fE rfl I
     case Nx=>
      refine ao ?_;refine If (fun mc=>?_) fun mc=>?_
      ·
        have ij:=NB mc;have he:=HQ gJ (by rw[wE cc ab (by rw[ij];exact mc),ij];exact mc);rw[wE cc ab (by rw[ij];exact mc),ij] at he;refine rg ?_;refine al ?_;refine U V.GN ?_;refine' W.panic rfl rfl rfl ?_;first
         |exact oY ⟨rfl,an.le.refl _,by rw[he];decide,by rw[he]⟩
         |exact oY ⟨rfl,c2.trans bi,by rw[he];exact mc,by rw[he]⟩
         |exact oY ⟨rfl,c2.trans bi,by rw[he];decide,by rw[he]⟩
         |exact oY ⟨rfl,c2.trans (aK.trans (bi.trans (cn.trans eL))),by rw[he];decide,by rw[he]⟩
      ·
        have mc:nc x=0:=jh fun q=>mc q;refine fy ?_;refine U V.cJ ?_;refine U V.cg ?_;refine aA ?_;refine If (fun mZ=>?_) fun mZ=>?_
        ·have ij:=NA mc mZ;have he:=HQ gJ (by rw[wE cc ab (by rw[ij];decide),ij];decide);rw[wE cc ab (by rw[ij];decide),ij] at he;refine rg ?_;refine U V.kW ?_;refine U V.GN ?_;refine' W.panic rfl rfl rfl ?_;first
          |exact oY ⟨rfl,an.le.refl _,by rw[he];decide,by rw[he]⟩
          |exact oY ⟨rfl,c2.trans bi,by rw[he];exact mc,by rw[he]⟩
          |exact oY ⟨rfl,c2.trans bi,by rw[he];decide,by rw[he]⟩
          |exact oY ⟨rfl,c2.trans (aK.trans (bi.trans (cn.trans eL))),by rw[he];decide,by rw[he]⟩
        ·have w5:x.neg=false:=mZ;have ij:=UH mc w5;have Kg:kO (l.take (i+1)):=HX (P:=fun y=>lp y=0) cc ab ij;refine fy ?_;refine U V.aY ?_;refine U V.ay ?_;refine a3 ?_;refine fl ⟨i+1,dT⟩ ?_ (hm:=.cons _ (.refl _));exact⟨I,c2.trans bi,Kg⟩
    ·have tN:l.take i=l:=dd I;have oM:kO l:=by
        have:=cc;rw[tN] at this;exact this
     have ag:=nX oM;have lY:=Fb oM mf;have qu:=Zk oM mf;have ahS:=xn (fj l);have asL:=xn (g2 l).sum;have c0:=(ew.mono (R':=hj dw) c2 (fun _ _ q=>q.mono c2) h).zg oM;rw[RA oM] at c0;have V6:=list_fn (Q:=Q) (g0:=g0) (J:=dw) (b:=b) (c:=c) (rs:=l.map cG.rt) (by rw[g6];exact c0) (by rw[g6];omega) (fun r av=>by
        obtain⟨x,ab,rfl⟩:=rW.1 av;have he:=UI (oM x ab) (mf x ab);exact⟨(sc (oM x ab)).2.2.2,⟨cY he.1 bC,cY he.2 bC⟩⟩)
     rw[g6,<-RA oM] at V6;have ajf:∀{ah:an} {cZ:Option Addr} {db:Nat},ew ah 67 3 (mP ah) (.slice cZ l.length db) ((g2 l).map fun p:Nat=>bk (p:Int) (fj l))->Fn (a1 Q g0) 49 [.slice cZ l.length db] [] ah (p8 ah (j3 l)):=fun{ah cZ db} fS=>by
        have:=apd (Q:=Q) (g0:=g0) (ps:=g2 l) (s:=fj l) (b:=cZ) (c:=db) (J:=ah) (by rw[j2];exact fS) ag I I (by rw[j2];omega);rw[j2] at this;exact this
     have ri:=HY oM;have F4:hW 10000 (j3 l):=sg ag I I;have pr:hW 1 (⟨((1:Nat):Int),1⟩:cE):=hW.mk (by show(aR 1).length<=1;exact Bc bC) (by show(aR 1).length<=1;exact Bc bC);have vn:=apb oM;refine ao ?_;refine ae.exit ?_;refine rg ?_;refine U V.ay ?_;refine bN (G:=V6) (h:=?_);rintro v' m' bK aK ⟨_,rfl,cZ,db,rfl,fS⟩;have b0:addrEq cZ cZ=true:=fS.addr;refine U V.au ?_;refine a2 ?_;refine U V.ay ?_;refine bN (G:=ajf fS) (h:=?_);rintro v' m' dT bi ⟨_,rfl,bm,bW,rfl,b4⟩;have nu:=b4;obtain⟨dE,fH,dZ,rfl,dN,_,_⟩:=b4.n.b6;obtain⟨fI,kg,gV,rfl,gl,_,_⟩:=b4.d.b6;refine bN (G:=Qe (n:=1) bC bC) (h:=?_);rintro v' m' ga cn ⟨_,rfl,bm,bW,rfl,cp⟩;have oH:=cp;obtain⟨gz,gk,e7,rfl,iC,_,_⟩:=cp.n.b6;obtain⟨mB,vC,hE,rfl,nH,_,_⟩:=cp.d.b6;refine bN (G:=Um (nu.mono cn) oH (LM oM) ⟨by decide,by decide⟩ I bC F4 pr I I) (h:=?_);rintro v' m' mQ eL ⟨rfl,rfl,_⟩;refine U V.bb ?_;refine aA ?_;refine If (fun M0=>?_) fun M0=>?_
     ·have he:=Rx gJ oM (fun q=>M0 (vn.2 q));refine rg ?_;refine U V.kW ?_;refine U V.GN ?_;refine' W.panic rfl rfl rfl ?_;first
        |exact oY ⟨rfl,an.le.refl _,by rw[he];decide,by rw[he]⟩
        |exact oY ⟨rfl,c2.trans bi,by rw[he];exact mc,by rw[he]⟩
        |exact oY ⟨rfl,c2.trans bi,by rw[he];decide,by rw[he]⟩
        |exact oY ⟨rfl,c2.trans (aK.trans (bi.trans (cn.trans eL))),by rw[he];decide,by rw[he]⟩
     ·have he:=Zg gJ oM (vn.1 (jh fun q=>M0 q));refine fy ?_;refine al ?_;refine aA ?_;refine ae.ret ?_;exact LE (m':=[]) ⟨c2.trans (aK.trans (bi.trans (cn.trans eL))),rfl,he,cZ,db,rfl,ew.mono (R':=mP mQ) (bi.trans (cn.trans eL)) (fun _ _ q=>q.mono (bi.trans (cn.trans eL))) fS⟩
end
section
variable {K:ef}{B:dy}{o:Oper}{n:Nat}{ds:eK}{l:List (Nat×Value)}{m:a8}{J:an}
theorem aps{x:Operand}{xt t:TypeId}{v:Value}(aj:o.op=.typeAssert x xt t true)(ab:bT l x=some (.iface t v))(aE:Bf K.P t=true):c5 K B o n ds l m J (.tuple #[v,.bool true]):=by
 intro call aQ S H ax aH;unfold cL e3;simp only[aj];show Bq K.P _ t true (ba S.T H x)=_;rw[dg ax H ab];show g3 (Cz K.P (.iface t v) t true) _=_;have:Cz K.P (.iface t v) t true=some (.tuple #[v,.bool true]):=by
  unfold Bf at aE;unfold Cz;cases hu:K.P.underlying t with
  |none=>rw[hu] at aE;cases aE
  |some u=>
   rw[hu] at aE;cases u<;>first
       |(cases aE;done)
       |(simp only[hY,cv])
 rw[this];rfl
end
theorem p1.mono{K:ef}{f:FuncId}{args:List Value}{bE:FrameMode}{cj:a8}{J:an}{P Tp:FrameMode->a8->an->Prop}(h:p1 K f args bE cj J P)(ap:∀u m ah,P u m ah->Tp u m ah):p1 K f args bE cj J Tp:=fun H aH=>by
 obtain⟨v,gL,H',ah,m',ad,af,aV⟩:=h H aH;exact⟨v,gL,H',ah,m',ad,af,ap _ _ _ aV⟩
abbrev NS(e:Int):Value:=.iface 87 (.agg #[.int .i64 e])
section
variable {Q:dD Tryz.prog}{g0:Nat}{J:an}
theorem alB{r:cE}{v1 v2:Value}(av:fZ J r v1 v2)(fr:hW 30000 r)(lv:r.d≠0)(dF:(ai r.z.natAbs).length<=1024)(dq:(ai r.d).length<=1024):Fn (a1 Q g0) 27 [c8 r v1 v2] [] J (fun u m' ah=>J.le ah/\m'=[]/\∃v1 v2,u=.tuple #[c8 r v1 v2,.int .i64 0]/\fO ah r v1 v2):=by
 have dj:=av;obtain⟨bQ,dv,bH,rfl,aX,h6,gN⟩:=av.n.b6;obtain⟨bL,dV,bM,rfl,aU,l1,gO⟩:=av.d.b6;have oK:sf r=true:=by show(decide _&&decide _)=true;rw[ie dF,ie dq];rfl
 refine Fn.cr (cu Tryz.func27) rfl rfl fun H=>?_;refine rg ?_;refine gU fun bO=>?_;refine' W.step rfl (.of (gx rfl rfl rfl (lb Q g0) rfl rfl rfl fun bA=>?_));refine U V.au ?_;refine a2 ?_;refine U V.ik ?_;refine bN (G:=anb dj fr lv) (h:=?_);rintro v' m' bK aK ⟨_,rfl,bS⟩;rw[oK] at bS;obtain⟨bm,bW,rfl,c0⟩:∃v1 v2,v'=.tuple #[c8 r v1 v2,.bool true]/\fO bK r v1 v2:=(by rcases bS with⟨_,h⟩|⟨h,_⟩;exact h;cases h);have jt:=c0;obtain⟨cZ,db,rfl,b0⟩:=c0.n.bG;obtain⟨dE,dZ,rfl,dN⟩:=c0.d.bG;refine al ?_;refine' W.step rfl (.of (gx rfl rfl rfl (lb Q g0) rfl rfl rfl fun dn=>?_));refine e9 ?_;refine U V.au ?_;refine a2 ?_;refine U V.ay ?_;refine U V.rB ?_;refine aA ?_;refine If (fun jn=>?_) fun jn=>?_
 ·exfalso;simp at jn
 ·refine ao ?_;refine ae.skip ?_;refine rg ?_;refine U V.ik ?_;refine e9 ?_;refine U V.au ?_;refine aA ?_;refine ae.ret ?_;refine'⟨.inr rfl,rfl,_,[],.cell rfl (by repeat first|exact .head _|refine .tail _ ?_|refine eF _ ?_) (fA (dm rfl) rfl) (.tmp rfl .nil),br _,⟨aK,rfl,_,_,rfl,jt⟩⟩
theorem Uj{cK:Nat}:Fn (a1 Q g0) 21 [.nilIface,.pointer (some ⟨cK,0,none⟩)] [] J (fun u m' ah=>m'=[]/\J=ah):=by
 refine Fn.cr (cu Tryz.func21) rfl rfl fun H=>?_;refine rg ?_;refine U V.ay ?_;refine' W.step rfl (Exec.val rfl rfl (aal rfl rfl ?az (WX Q g0)) ?_);case az=>first|rfl|assumption
 refine aA ?_;refine If (fun hE=>?_) fun hE=>?_
 ·refine ao ?_;refine ae.ret ?_;refine'⟨.inr rfl,rfl,_,[],.nil,br _,⟨rfl,rfl⟩⟩
 ·exfalso;cases hE
theorem Uk{cK:Nat}{e:Int}{y:Value}:Fn (a1 Q g0) 21 [NS e,.pointer (some ⟨cK,0,none⟩)] [(cK,.row [y] 28)] J (fun u m' ah=>m'=[(cK,.row [.int .i64 e] 28)]/\J=ah):=by
 refine Fn.cr (cu Tryz.func21) rfl rfl fun H=>?_;refine rg ?_;refine U V.ay ?_;refine' W.step rfl (Exec.val rfl rfl (aal rfl rfl ?az (WX Q g0)) ?_);case az=>first|rfl|assumption
 refine aA ?_;refine If (fun hE=>?_) fun hE=>?_
 ·exfalso;cases hE
 ·refine ao ?_;refine ae.skip ?_;refine rg ?_;refine al ?_;refine e9 ?_;refine a2 ?_;refine U V.ay ?_;refine' W.step rfl (Exec.val rfl rfl (aps rfl rfl (Z0 rfl)) ?_);refine al ?_;refine' W.step rfl (.of (gx rfl rfl rfl (aqM Q g0) rfl rfl rfl fun dn=>?_));refine e9 ?_;refine U V.au ?_;refine a2 ?_;refine U V.ay ?_;refine aA ?_;refine If (fun eR=>?_) fun eR=>?_
  ·refine rg ?_;refine al ?_;refine U V.cI ?_;refine U V.KZ ?_;refine e9 ?_;refine a3 ?_;refine'⟨.inl rfl,rfl,_,_,.nil,.cons _ (.refl _),⟨rfl,rfl⟩⟩
  ·exfalso;cases eR
theorem Jd{cK:Nat}{x3:List Value}:p1 (a1 Q g0) 26 [.pointer (some ⟨cK,0,none⟩)] .returning [(cK,.row x3 28)] J (fun u m' ah=>u=.returning/\m'=[(cK,.row x3 28)]/\J=ah):=by
 refine p1.cr (cu Tryz.func26) rfl rfl fun H=>?_;refine rg ?_;refine' W.recover rfl rfl rfl rfl rfl rfl rfl ?_;refine bN (G:=Uj) (h:=?_);rintro v' m' ah hle ⟨rfl,rfl⟩;refine a3 ?_;exact⟨by first|exact .inl rfl|exact .inr rfl,rfl,[],_,.nil,.refl _,rfl,rfl,rfl⟩
theorem TQ{cK:Nat}{e:Int}{y:Value}:p1 (a1 Q g0) 26 [.pointer (some ⟨cK,0,none⟩)] (.panicking [{v:=NS e,recovered:=false}]) [(cK,.row [y] 28)] J (fun u m' ah=>settle u=.returning/\m'=[(cK,.row [.int .i64 e] 28)]/\J=ah):=by
 refine p1.cr (cu Tryz.func26) rfl rfl fun H=>?_;refine rg ?_;refine' W.recover rfl rfl rfl rfl rfl rfl rfl ?_;refine' W.step rfl (Exec.call rfl rfl rfl rfl rfl rfl rfl (cj:=[(cK,.row [y] 28)]) (eB:=[]) (.refl _) trivial (Uk) ?_);rintro v' m' ah hle ⟨rfl,rfl⟩;refine a3 ?_;exact⟨by first|exact .inl rfl|exact .inr rfl,rfl,[],_,.nil,.refl _,rfl,rfl,rfl⟩
theorem Lz{cK:Nat}{x3:List Value}:p1 (a1 Q g0) 20 [.pointer (some ⟨cK,0,none⟩)] .returning [(cK,.row x3 28)] J (fun u m' ah=>u=.returning/\m'=[(cK,.row x3 28)]/\J=ah):=by
 refine p1.cr (cu Tryz.func20) rfl rfl fun H=>?_;refine rg ?_;refine' W.recover rfl rfl rfl rfl rfl rfl rfl ?_;refine bN (G:=Uj) (h:=?_);rintro v' m' ah hle ⟨rfl,rfl⟩;refine a3 ?_;exact⟨by first|exact .inl rfl|exact .inr rfl,rfl,[],_,.nil,.refl _,rfl,rfl,rfl⟩
theorem anz{cK:Nat}{e:Int}{y:Value}:p1 (a1 Q g0) 20 [.pointer (some ⟨cK,0,none⟩)] (.panicking [{v:=NS e,recovered:=false}]) [(cK,.row [y] 28)] J (fun u m' ah=>settle u=.returning/\m'=[(cK,.row [.int .i64 e] 28)]/\J=ah):=by
 refine p1.cr (cu Tryz.func20) rfl rfl fun H=>?_;refine rg ?_;refine' W.recover rfl rfl rfl rfl rfl rfl rfl ?_;refine' W.step rfl (Exec.call rfl rfl rfl rfl rfl rfl rfl (cj:=[(cK,.row [y] 28)]) (eB:=[]) (.refl _) trivial (Uk) ?_);rintro v' m' ah hle ⟨rfl,rfl⟩;refine a3 ?_;exact⟨by first|exact .inl rfl|exact .inr rfl,rfl,[],_,.nil,.refl _,rfl,rfl,rfl⟩
end
end
end Go.Opn

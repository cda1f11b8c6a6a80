/- A part of the proof of TableRounds. -/
import Derived.Test.YtfdhclnfkafebaaGreatDoorCar
set_option maxRecDepth 100000
set_option maxHeartbeats 4000000
set_option linter.unusedVariables false
set_option linter.unusedSimpArgs false
namespace Go.Opn
noncomputable section
open Go.Cre Go.RowKit Go.Proofs
theorem Sk(x:Int):IntKind.u64.wrap x=x % 18446744073709551616:=by
 unfold IntKind.wrap IntKind.signed IntKind.bits;simp only[En,Eo,Dl];rfl
theorem zm{x k:Nat}:IntKind.u64.wrap ((x:Int)*2 ^ ((k:Int)).toNat)=((x*2 ^ k % 18446744073709551616:Nat):Int):=by
 rw[jy,show(x:Int)*2 ^ k=((x*2 ^ k:Nat):Int) by rw[gM,Int.natCast_pow];rfl];exact LW _
theorem xP{x k:Nat}:(x:Int).fdiv (2 ^ ((k:Int)).toNat)=((x / 2 ^ k:Nat):Int):=by
 rw[jy];exact HU
theorem HH{a b:Nat}(aI:a<18446744073709551616)(ak:b<18446744073709551616):IntKind.u64.wrap ((BitVec.ofInt IntKind.u64.bits (a:Int) ||| BitVec.ofInt IntKind.u64.bits (b:Int)).toNat:Int)=((a ||| b:Nat):Int):=by
 have e:(BitVec.ofInt 64 (a:Int) ||| BitVec.ofInt 64 (b:Int)).toNat=a ||| b:=by
  rw[BitVec.toNat_or];have ad:(BitVec.ofInt 64 (a:Int)).toNat=a:=by rw[BitVec.toNat_ofInt];omega
  have af:(BitVec.ofInt 64 (b:Int)).toNat=b:=by rw[BitVec.toNat_ofInt];omega
  rw[ad,af]
 show IntKind.u64.wrap ((BitVec.ofInt 64 (a:Int) ||| BitVec.ofInt 64 (b:Int)).toNat:Int)=_;rw[e];exact Sl (Mu (n:=64) aI ak)
theorem rJ{x d:Nat}(ab:x<18446744073709551616):IntKind.u64.wrap ((x:Int).tdiv (d:Int))=((x / d:Nat):Int):=by
 have jC:(x:Int).tdiv (d:Int)=((x / d:Nat):Int):=rfl;rw[jC];exact Sl (p7 (rZ x d) ab)
theorem aaN{u u1 P R:Nat}(cX:P+R=u*4294967296+u1)(c0:R<18446744073709551616):IntKind.u64.wrap (IntKind.u64.wrap (IntKind.u64.wrap ((u:Int)*4294967296)+(u1:Int)) -IntKind.u64.wrap (P:Int))=(R:Int):=by
 simp only[Sk];omega
theorem acv{x:Nat}(h:x<18446744073709551616):fD x<=64:=by
 by_cases aO:x=0
 ·subst aO;decide
 ·obtain⟨ad,_,aV⟩:=Ji aO
  by_cases k:fD x<=64
  ·exact k
  ·exfalso
   have:2 ^ 64<=2 ^ (fD x -1):=my bC I;omega
theorem K6{d:Nat}(aO:d≠0)(h:d<18446744073709551616):d*2 ^ (64 -fD d)<18446744073709551616/\9223372036854775808<=d*2 ^ (64 -fD d)/\64 -fD d<=63:=by
 obtain⟨ad,af,aV⟩:=Ji aO;have bq:=acv h;have aC:2 ^ fD d*2 ^ (64 -fD d)=18446744073709551616:=by rw[<-oB,show fD d+(64 -fD d)=64 by omega]
 have aW:2 ^ (fD d -1)*2 ^ (64 -fD d)=9223372036854775808:=by rw[<-oB,show fD d -1+(64 -fD d)=63 by omega]
 have fL:=B9 af (lS (64 -fD d));have hv:=e0 (2 ^ (64 -fD d)) ad;omega
structure aa5 (H L d k V v1 v0 u w u1 bI jz:Nat):Prop where
 hk:k=64 -fD d
 W5:k<=63
 jX:d*2 ^ k=V
 uL:V=v1*4294967296+v0
 I2:V<18446744073709551616
 LN:2147483648<=v1
 aak:v1<4294967296
 qJ:v0<4294967296
 SJ:H*2 ^ k<18446744073709551616
 aby:L / 2 ^ (64 -k)<2 ^ k
 abx:L / 2 ^ (64 -k)<18446744073709551616
 hu:u=H*2 ^ k+L / 2 ^ (64 -k)
 aag:u<V
 hw:L*2 ^ k % 18446744073709551616=w
 LS:w<18446744073709551616
 pz:w / 4294967296=u1
 ob:w % 4294967296=bI
 BG:u1<4294967296
 BF:bI<4294967296
 Mx:jz=(u*4294967296+u1) % V
 Tr:jz<V
 bS:(H*18446744073709551616+L) / d=(u*4294967296+u1) / V*4294967296+(jz*4294967296+bI) / V
 av:(H*18446744073709551616+L) % d=(jz*4294967296+bI) % V / 2 ^ k
 qt:(u*4294967296+u1) / V*4294967296+(jz*4294967296+bI) / V<18446744073709551616
theorem aew{H L d:Nat}(me:H<d)(bB:L<18446744073709551616)(aq:d<18446744073709551616):∃k V v1 v0 u w u1 bI jz,aa5 H L d k V v1 v0 u w u1 bI jz:=by
 have lv:d≠0:=I
 obtain⟨k,hk⟩:∃k,k=64 -fD d:=⟨_,rfl⟩;obtain⟨dv,dV,en⟩:=K6 lv aq;rw[<-hk] at dv dV en;obtain⟨V,jX⟩:∃V,d*2 ^ k=V:=⟨_,rfl⟩;rw[jX] at dv dV;obtain⟨w,hw⟩:∃w,L*2 ^ k % 18446744073709551616=w:=⟨_,rfl⟩;have tO:w<18446744073709551616:=by rw[<-hw];exact fJ _ bC
 have arS:H*2 ^ k<V:=by rw[<-jX];exact B9 me (lS k)
 have ae':2 ^ (64 -k)*2 ^ k=18446744073709551616:=by rw[<-oB,yd I]
 have ag7:L / 2 ^ (64 -k)<2 ^ k:=(mV (lS _)).2 (by rw[dz,ae'];exact bB);obtain⟨u,hu⟩:∃u,u=H*2 ^ k+L / 2 ^ (64 -k):=⟨_,rfl⟩;have ajg:u<V:=by
  have ad:(H+1)*2 ^ k<=V:=by rw[<-jX];exact e0 _ me
  rw[c3,iL] at ad;omega
 have ag:=anS (H:=H) (k:=k) I bB;rw[<-hu,hw] at ag;have l3:=lS k;have FU:0<V:=I
 have e:u*18446744073709551616+w=(u*4294967296+w / 4294967296)*4294967296+w % 4294967296:=I
 obtain⟨s1,s2⟩:=Nq (N:=H*18446744073709551616+L) (d:=d) l3;obtain⟨t1,t2⟩:=aeB (c4:=u*4294967296+w / 4294967296) (bI:=w % 4294967296) FU;rw[jX,ag,e] at s1 s2;refine⟨k,V,V / 4294967296,V % 4294967296,u,w,w / 4294967296,w % 4294967296,_,hk,en,jX,I,dv,I,I,I,I,ag7,p7 (rZ _ _) bB,hu,ajg,hw,tO,rfl,rfl,I,I,rfl,fJ _ FU,s1.symm.trans t1,by rw[<-s2,t2],?_⟩;rw[<-t1,s1];exact(mV I).2 (by
  have:=e0 18446744073709551616 me;rw[dz 18446744073709551616 d];rw[o9] at this;omega)
section
variable {Q:dD Tryz.prog}{g0:Nat}{J:an}
theorem Np{H L d:Nat}(me:H<d)(bB:L<18446744073709551616)(aq:d<18446744073709551616):Fn (a1 Q g0) 123 [.int .u64 (H:Int),.int .u64 (L:Int),.int .u64 (d:Int)] [] J (fun u m' ah=>u=.tuple #[.int .u64 (((H*18446744073709551616+L) / d:Nat):Int),.int .u64 (((H*18446744073709551616+L) % d:Nat):Int)]/\m'=[]/\J=ah):=by
 obtain⟨k,gQ,v1,v0,u,w,u1,bI,jz,D⟩:=aew me bB aq;have W5:=D.W5;have jX:=D.jX;have uL:=D.uL;have I2:=D.I2;have LN:=D.LN;have aak:=D.aak;have qJ:=D.qJ;have aag:=D.aag;have BG:=D.BG;have BF:=D.BF;have Mx:=D.Mx;have Tr:=D.Tr;have qt:=D.qt;refine Fn.cr (cu Tryz.func123) rfl rfl fun aqW=>?_;refine rg ?_;refine al ?_;refine a2 ?_;refine U V.ay ?_;refine U V.bb ?_;refine aA ?_;refine If (fun iw=>?_) fun iw=>?_
 ·exfalso;omega
 ·refine ao ?_;refine ae.skip ?_;refine rg ?_;refine al ?_;refine U V.bb ?_;refine aA ?_;refine If (fun z1=>?_) fun z1=>?_
  ·exfalso;omega
  ·refine ao ?_;refine ae.skip ?_;refine rg ?_;refine U V.ay ?_;refine U V.bb ?_;refine aA ?_;refine If (fun hD=>?_) fun hD=>?_
   ·have aO:H=0:=I
    subst aO;rw[j8,j7];refine ao ?_;refine ae.draw rfl (by kernel_rfl) (a':=[.val 0,.val 1,.val 2,.val 3,.val 4,.val 5,.val 6,.val 7]) (by kernel_rfl) ?_;refine eg ?_;refine aT rfl V.hn ?_;refine eg ?_;refine aT rfl V.hn ?_;refine eg ?_;refine bp.nil ?_;refine ao ?_;refine ae.ret ?_;refine mR ?_;first
     |(have c:=hD
       exact⟨by rw[rJ bB];rfl,rfl,rfl⟩)
     |exact⟨rfl,rfl,rfl⟩
   ·refine ao ?_;refine ae.skip ?_;refine rg ?_;refine U V.ay ?_;refine bN (G:=QA aq) (h:=?_);rintro v' m' ah hle ⟨rfl,rfl,rfl⟩;rw[<-D.hk];refine U V.d' ?_;refine U V.au ?_;refine a2 ?_;refine al ?_;refine' W.step rfl (Exec.val rfl rfl (s0 rfl rfl rfl ?aO ?ad) ?_);case aO=>exact bz
    case ad=>first|decide|exact bz|exact(show _<=((64:Nat):Int) from I)
    refine U V.au ?_;refine a3 ?_;rw[zm,jX,nO I2];refine rg ?_;refine U V.ay ?_;refine' W.step rfl (Exec.val rfl rfl (uk rfl rfl rfl rfl ?aO ?ad) ?_);case aO=>exact bz
    case ad=>first|decide|exact bz|exact(show _<=((64:Nat):Int) from I)
    rw[zn,show gQ / 4294967296=v1 by omega];refine U V.au ?_;refine a2 ?_;refine U V.ay ?_;refine' W.step rfl (Exec.val rfl rfl (D7 rfl rfl rfl) ?_);rw[ER I2,show gQ % 4294967296=v0 by omega];refine U V.au ?_;refine a2 ?_;refine al ?_;refine' W.step rfl (Exec.val rfl rfl (s0 rfl rfl rfl ?aO ?ad) ?_);case aO=>exact bz
    case ad=>first|decide|exact bz|exact(show _<=((64:Nat):Int) from I)
    rw[zm,nO D.SJ];refine al ?_;refine U V.aY ?_;rw[show(64:Int) -(k:Int)=((64 -k:Nat):Int) by omega];refine' W.step rfl (Exec.val rfl rfl (xY rfl rfl rfl ?aO ?ad) ?_);case aO=>exact bz
    case ad=>first|decide|exact bz|exact(show _<=((64:Nat):Int) from I)
    rw[xP];refine' W.step rfl (Exec.val rfl rfl (D8 rfl rfl rfl) ?_);rw[HH D.SJ D.abx,Ri D.aby,<-D.hu];refine U V.au ?_;refine a2 ?_;refine al ?_;refine' W.step rfl (Exec.val rfl rfl (s0 rfl rfl rfl ?aO ?ad) ?_);case aO=>exact bz
    case ad=>first|decide|exact bz|exact(show _<=((64:Nat):Int) from I)
    rw[zm,D.hw];refine U V.au ?_;refine a2 ?_;refine U V.ay ?_;refine' W.step rfl (Exec.val rfl rfl (uk rfl rfl rfl rfl ?aO ?ad) ?_);case aO=>exact bz
    case ad=>first|decide|exact bz|exact(show _<=((64:Nat):Int) from I)
    rw[zn,D.pz];refine U V.au ?_;refine a2 ?_;refine U V.ay ?_;refine' W.step rfl (Exec.val rfl rfl (D7 rfl rfl rfl) ?_);rw[ER D.LS,D.ob];refine U V.au ?_;refine a2 ?_;refine al ?_;refine U V.hn ?_;rw[rJ I];obtain⟨iq,sv⟩:∃q,q=u / v1:=⟨_,rfl⟩;obtain⟨ki,dj⟩:∃r,r=u % v1:=⟨_,rfl⟩;have hm:iq*v1+ki=u:=by rw[sv,dj,dz];exact lR u v1
    have Wq:ki<v1:=by rw[dj];exact fJ _ I
    have eX:lN u u1 v1 v0 iq ki:=by rw[sv,dj];exact lN.start BG I
    have Gm:iq<=4294967297:=by rw[sv];exact lN.top I LN qJ
    rw[<-sv];refine U V.au ?_;refine a2 ?_;refine al ?_;refine U V.aY ?_;refine U V.aY ?_;rw[show(u:Int) -(iq:Int)*(v1:Int)=(ki:Int) by omega];refine U V.au ?_;refine a3 ?_;refine eP [15,16,2,8,9,10,11,13,14] ?_;refine ao ?_;refine' ae.lW (α:=(Nat)) 2 (fun(aX:Nat)=>[(15,.int .u64 (aX:Int))]) (fun(aX:Nat)=>[]) (fun(aX:Nat)=>J) (fun(aX:Nat)=>aX=(u*4294967296+u1) / gQ) ?wm ?wx;case wm=>
     refine ae.block ?_;refine' ae.dO (l':=[(15,.int .u64 ((iq):Int)),(16,.int .u64 ((ki):Int)),(2,_),(8,_),(9,_),(10,_),(11,_),(13,_),(14,_)]) ⟨?Ie,?xZ,rfl,rfl,rfl,rfl,rfl,rfl,rfl,trivial⟩ (bx _) ?_;case Ie=>first|exact bg|exact aa some (aa (Value.int .u64) I)|exact aa some (aa (Value.int .i64) I)
     case xZ=>first|exact bg|exact aa some (aa (Value.int .u64) I)|exact aa some (aa (Value.int .i64) I)
     refine ao ?_;refine' ae.lE (α:=(Nat)×(Nat)) (fun(a6:(Nat)×(Nat))=>match a6 with|(q,r)=>[(15,.int .u64 (q:Int)),(16,.int .u64 (r:Int))]) (fun(a6:(Nat)×(Nat))=>match a6 with|(q,r)=>lN u u1 v1 v0 q r/\r<4294967296/\q<=4294967297) (fun(a6:(Nat)×(Nat))=>match a6 with|(q,r)=>q) ⟨iq,ki⟩ ?ag ?bD
     case ag=>exact⟨eX,I,Gm⟩
     case bD=>
      rintro⟨q,r⟩ hinv;try simp only at hinv
      obtain⟨cy,av,bS⟩:=hinv;refine eP [2,8,9,10,11,13,14,15,16] ?_;refine ao ?_;refine' ae.hf 0 [(78,.bool (decide ((4294967296<=q\/r*4294967296+u1<q*v0))))] ?Nl ?Nw;case Nl=>
        refine ae.region ?_;refine U V.ay ?_;refine U V.bb ?_;refine U V.ay ?_;refine ft 69 (fun agv=>?_) fun agv=>?_
        ·refine bs ?_;refine bs ?_;refine bs ?_;refine bs ?_;refine bs ?_;refine bs ?_;refine bs ?_;refine bs ?_;refine U V.bt ?_;refine a3 ?_;refine'⟨⟨_,rfl,⟨?QS,rfl,rfl,rfl,rfl,rfl,rfl,rfl,rfl,rfl,trivial⟩⟩,bx _,rfl⟩;case QS=>first|exact fw rfl (by first|omega|(simp_all;done)|(simp_all;omega))|exact fu rfl (by first|omega|(simp_all;done)|(simp_all;omega))|exact fv rfl (by first|omega|(simp_all;done)|(simp_all;omega))|exact fE rfl (by first|omega|(simp_all;done)|(simp_all;omega))
        ·have ak:=Dz (a:=q) (b:=v0) I I;refine bo V.ay ?_;refine bo V.ay ?_;refine bo V.aY ?_;refine bo V.ay ?_;refine bo V.aY ?_;refine bo V.ay ?_;refine bo V.aY ?_;refine bo V.bb ?_;refine U V.bt ?_;refine a3 ?_;refine'⟨⟨_,rfl,⟨?QS,rfl,rfl,rfl,rfl,rfl,rfl,rfl,rfl,rfl,trivial⟩⟩,bx _,rfl⟩;case QS=>first|exact fw rfl (by first|omega|(simp_all;done)|(simp_all;omega))|exact fu rfl (by first|omega|(simp_all;done)|(simp_all;omega))|exact fv rfl (by first|omega|(simp_all;done)|(simp_all;omega))|exact fE rfl (by first|omega|(simp_all;done)|(simp_all;omega))
      case Nw=>
        refine ao ?_;refine If (fun E5=>?_) fun E5=>?_
        ·have n9:=(cy.less I BG qJ av E5).2;refine dW ?_;refine ao ?_;refine ae.block ?_;refine rg ?_;refine U V.ay ?_;refine U V.aY ?_;refine U V.au ?_;refine a2 ?_;refine al ?_;refine U V.aY ?_;refine U V.au ?_;refine a2 ?_;refine U V.ay ?_;refine U V.bb ?_;refine aA ?_;refine If (fun ac8=>?_) fun ac8=>?_
         ·refine ao ?_;refine ae.exit ?_;refine'⟨(q -1),_,?hinv,rfl,⟨?xq,rfl,rfl,rfl,rfl,rfl,rfl,rfl,trivial⟩,gK,rfl⟩;case xq=>first|exact bg|exact aa some (aa (Value.int .u64) I)|exact aa some (aa (Value.int .i64) I)
          case hinv=>rw[uL];exact((cy.less I BG qJ av E5).1.done (lN.T1 (cy.less I BG qJ av E5).1 I I qJ)).1.symm
         ·refine ao ?_;refine ae.skip ?_;refine'⟨⟨q -1,r+v1⟩,_,?hinv,?gi,rfl,⟨?xq,?QC,rfl,rfl,rfl,rfl,rfl,rfl,rfl,trivial⟩,bx _,rfl⟩;case xq=>first|exact bg|exact aa some (aa (Value.int .u64) I)|exact aa some (aa (Value.int .i64) I)
          case QC=>first|exact bg|exact aa some (aa (Value.int .u64) I)|exact aa some (aa (Value.int .i64) I)
          case gi=>exact bz
          case hinv=>exact⟨(cy.less I BG qJ av E5).1,I,I⟩
        ·refine ao ?_;refine ae.exit ?_;refine'⟨(q),_,?hinv,rfl,⟨?xq,rfl,rfl,rfl,rfl,rfl,rfl,rfl,trivial⟩,gK,rfl⟩;case xq=>first|exact bg|exact aa some (aa (Value.int .u64) I)|exact aa some (aa (Value.int .i64) I)
         case hinv=>rw[uL];exact(cy.done I).1.symm
    case wx=>
     rintro aX hinv;try simp only at hinv
     have n9:=hinv;have cX:=(show ∃P,P=aX*gQ/\P+jz=u*4294967296+u1 from⟨_,rfl,by rw[n9,Mx,dz];exact lR _ gQ⟩);obtain⟨P,JM,FT⟩:=cX;refine rg ?_;refine U V.ay ?_;refine U V.aY ?_;refine U V.ay ?_;refine U V.aY ?_;refine al ?_;refine U V.aY ?_;refine U V.aY ?_;rw[vA JM,aaN FT I];refine U V.au ?_;refine a2 ?_;refine al ?_;refine U V.hn ?_;rw[rJ I];obtain⟨jw,rj⟩:∃q,q=jz / v1:=⟨_,rfl⟩;obtain⟨zj,PF⟩:∃r,r=jz % v1:=⟨_,rfl⟩;have Wb:jw*v1+zj=jz:=by rw[rj,PF,dz];exact lR jz v1
     have asK:zj<v1:=by rw[PF];exact fJ _ I
     have iA:lN jz bI v1 v0 jw zj:=by rw[rj,PF];exact lN.start BF I
     have aiH:jw<=4294967297:=by rw[rj];exact lN.top I LN qJ
     rw[<-rj];refine U V.au ?_;refine a2 ?_;refine al ?_;refine U V.aY ?_;refine U V.aY ?_;rw[show(jz:Int) -(jw:Int)*(v1:Int)=(zj:Int) by omega];refine U V.au ?_;refine a3 ?_;refine eP [9,10,16,18,2,8,14,15,17] ?_;refine ao ?_;refine' ae.lW (α:=(Nat)) 4 (fun(aU:Nat)=>[(18,.int .u64 (aU:Int))]) (fun(aU:Nat)=>[]) (fun(aU:Nat)=>J) (fun(aU:Nat)=>aU=(jz*4294967296+bI) / gQ) ?Ng ?Nv;case Ng=>
      refine ae.block ?_;refine' ae.dO (l':=[(18,.int .u64 ((jw):Int)),(16,.int .u64 ((zj):Int)),(2,_),(8,_),(9,_),(10,_),(14,_),(15,_),(17,_)]) ⟨?Ig,?xZ,rfl,rfl,rfl,rfl,rfl,rfl,rfl,trivial⟩ (bx _) ?_;case Ig=>first|exact bg|exact aa some (aa (Value.int .u64) I)|exact aa some (aa (Value.int .i64) I)
      case xZ=>first|exact bg|exact aa some (aa (Value.int .u64) I)|exact aa some (aa (Value.int .i64) I)
      refine ao ?_;refine' ae.lE (α:=(Nat)×(Nat)) (fun(a6:(Nat)×(Nat))=>match a6 with|(q,r)=>[(18,.int .u64 (q:Int)),(16,.int .u64 (r:Int))]) (fun(a6:(Nat)×(Nat))=>match a6 with|(q,r)=>lN jz bI v1 v0 q r/\r<4294967296/\q<=4294967297) (fun(a6:(Nat)×(Nat))=>match a6 with|(q,r)=>q) ⟨jw,zj⟩ ?ag ?bD
      case ag=>exact⟨iA,I,aiH⟩
      case bD=>
        rintro⟨q,r⟩ hinv;try simp only at hinv
        obtain⟨cy,av,bS⟩:=hinv;refine eP [2,8,9,10,14,15,16,17,18] ?_;refine ao ?_;refine' ae.hf 0 [(113,.bool (decide ((4294967296<=q\/r*4294967296+bI<q*v0))))] ?ad7 ?aeY;case ad7=>
         refine ae.region ?_;refine U V.ay ?_;refine U V.bb ?_;refine U V.ay ?_;refine ft 104 (fun agx=>?_) fun agx=>?_
         ·refine bs ?_;refine bs ?_;refine bs ?_;refine bs ?_;refine bs ?_;refine bs ?_;refine bs ?_;refine bs ?_;refine U V.bt ?_;refine a3 ?_;refine'⟨⟨_,rfl,⟨?QN,rfl,rfl,rfl,rfl,rfl,rfl,rfl,rfl,rfl,trivial⟩⟩,bx _,rfl⟩;case QN=>first|exact fw rfl (by first|omega|(simp_all;done)|(simp_all;omega))|exact fu rfl (by first|omega|(simp_all;done)|(simp_all;omega))|exact fv rfl (by first|omega|(simp_all;done)|(simp_all;omega))|exact fE rfl (by first|omega|(simp_all;done)|(simp_all;omega))
         ·have ak:=Dz (a:=q) (b:=v0) I I;refine bo V.ay ?_;refine bo V.ay ?_;refine bo V.aY ?_;refine bo V.ay ?_;refine bo V.aY ?_;refine bo V.ay ?_;refine bo V.aY ?_;refine bo V.bb ?_;refine U V.bt ?_;refine a3 ?_;refine'⟨⟨_,rfl,⟨?QN,rfl,rfl,rfl,rfl,rfl,rfl,rfl,rfl,rfl,trivial⟩⟩,bx _,rfl⟩;case QN=>first|exact fw rfl (by first|omega|(simp_all;done)|(simp_all;omega))|exact fu rfl (by first|omega|(simp_all;done)|(simp_all;omega))|exact fv rfl (by first|omega|(simp_all;done)|(simp_all;omega))|exact fE rfl (by first|omega|(simp_all;done)|(simp_all;omega))
        case aeY=>
         refine ao ?_;refine If (fun EZ=>?_) fun EZ=>?_
         ·have asI:=(cy.less I BF qJ av EZ).2;refine dW ?_;refine ao ?_;refine ae.block ?_;refine rg ?_;refine U V.ay ?_;refine U V.aY ?_;refine U V.au ?_;refine a2 ?_;refine al ?_;refine U V.aY ?_;refine U V.au ?_;refine a2 ?_;refine U V.ay ?_;refine U V.bb ?_;refine aA ?_;refine If (fun acO=>?_) fun acO=>?_
          ·refine ao ?_;refine ae.exit ?_;refine'⟨(q -1),_,?hinv,rfl,⟨?G2,rfl,rfl,rfl,rfl,rfl,trivial⟩,gK,rfl⟩;case G2=>first|exact bg|exact aa some (aa (Value.int .u64) I)|exact aa some (aa (Value.int .i64) I)
           case hinv=>rw[uL];exact((cy.less I BF qJ av EZ).1.done (lN.T1 (cy.less I BF qJ av EZ).1 I I qJ)).1.symm
          ·refine ao ?_;refine ae.skip ?_;refine'⟨⟨q -1,r+v1⟩,_,?hinv,?gi,rfl,⟨?G2,?QC,rfl,rfl,rfl,rfl,rfl,rfl,rfl,trivial⟩,bx _,rfl⟩;case G2=>first|exact bg|exact aa some (aa (Value.int .u64) I)|exact aa some (aa (Value.int .i64) I)
           case QC=>first|exact bg|exact aa some (aa (Value.int .u64) I)|exact aa some (aa (Value.int .i64) I)
           case gi=>exact bz
           case hinv=>exact⟨(cy.less I BF qJ av EZ).1,I,I⟩
         ·refine ao ?_;refine ae.exit ?_;refine'⟨(q),_,?hinv,rfl,⟨?G2,rfl,rfl,rfl,rfl,rfl,trivial⟩,gK,rfl⟩;case G2=>first|exact bg|exact aa some (aa (Value.int .u64) I)|exact aa some (aa (Value.int .i64) I)
          case hinv=>rw[uL];exact(cy.done I).1.symm
     case Nv=>
      rintro aU hinv;try simp only at hinv
      have qs:=hinv;obtain⟨Ca,ahf,ahg⟩:=(show ∃P,P=aU*gQ/\P+(jz*4294967296+bI) % gQ=jz*4294967296+bI from⟨_,rfl,by rw[qs,dz];exact lR _ gQ⟩);have JN:(jz*4294967296+bI) % gQ<gQ:=fJ _ I;rw[<-n9,<-qs] at qt;have m6:(aX:Int)*4294967296+(aU:Int)=(((H*18446744073709551616+L) / d:Nat):Int):=by rw[D.bS,<-n9,<-qs,uz,gM];rfl
      refine rg ?_;refine U V.ay ?_;refine U V.aY ?_;refine U V.ay ?_;refine U V.aY ?_;rw[m6];refine U V.ay ?_;refine U V.aY ?_;refine U V.ay ?_;refine U V.aY ?_;refine al ?_;refine U V.aY ?_;refine U V.aY ?_;rw[vA ahf,aaN ahg I];refine U V.ay ?_;refine' W.step rfl (Exec.val rfl rfl (xY rfl rfl rfl ?aO ?ad) ?_);case aO=>exact bz
      case ad=>first|decide|exact bz|exact(show _<=((64:Nat):Int) from I)
      rw[xP,<-D.av];refine al ?_;refine aA ?_;refine ae.ret ?_;refine mR ?_;first
       |(have c:=hD
         exact⟨by rw[rJ bB];rfl,rfl,rfl⟩)
       |exact⟨rfl,rfl,rfl⟩
end
end
end Go.Opn
namespace Go.Opn
noncomputable section
theorem aaw:∀{l:List Nat},(∀j y:Nat,l[j]?=some y->y=0)->a9 l=0
 |[],_=>rfl
 |x::l,h=>by
  show x+18446744073709551616*a9 l=0
  rw[h 0 x rfl,aaw (l:=l) fun j y bf=>h (j+1) y bf]
theorem aae{l:List Nat}{k:Nat}(aj:okW l)(hk:k<=l.length)(aL:∀j y,k<=j->l[j]?=some y->y=0)(aE:∀y,0<k->l[k -1]?=some y->y≠0):l.take k=aR (a9 l):=by
 have ad:x7 (l.take k):=⟨sM aj,fun x ab=>by
  have ap:0<k:=by
   rcases jj k with q|q
   ·rw[q] at ab;cases ab
   ·exact q
  refine aE x ap ?_
  rw[qU,dY,gn hk,ji,bj (by omega)] at ab
  exact ab⟩
 have af:=BN l k hk
 rw[aaw (l:=l.drop k) fun j y bf=>by
  rw[p5] at bf
  exact aL (k+j) y (by omega) bf] at af
 rw[Js ad,af]
 congr 1
theorem aaM{x:Nat}:∀{k:Nat},x<18446744073709551616 ^ k->(aR x).length<=k:=by
 intro k
 induction k generalizing x with
 |zero=>
  intro h
  have:x=0:=by rw[yc] at h;omega
  rw[this,rQ];exact bX _
 |succ k aZ=>
  intro h
  by_cases q:x=0
  ·rw[q,rQ];exact ep _
  ·rw[vS q,lP]
   have:x / 18446744073709551616<18446744073709551616 ^ k:=by
        rw[mV (by decide),<-fC];exact h
   have:=aZ this
   omega
theorem zx{x k:Nat}(h:(aR x).length<=k):x<18446744073709551616 ^ k:=by
 have ad:=rO (nF x)
 rw[hp] at ad
 exact iJ ad (my (by decide) h)
theorem Ec{x:Nat}(h:x≠0):(aR x).length≠0:=by rw[vS h,lP];omega
theorem ng{x:Nat}(h:(aR x).length≠0):x≠0:=fun q=>by rw[q,rQ] at h;exact h rfl
theorem Ed{x y:Nat}(h:(aR x).length<(aR y).length):x<y:=by
 have:=apU (nF x) (Us y) h
 rwa [hp,hp] at this
theorem Si{x y i a b:Nat}(aI:(aR x)[i]?=some a)(ak:(aR y)[i]?=some b)(aq:(aR x).drop (i+1)=(aR y).drop (i+1))(h:a<b):x<y:=by
 have:=apV (nF x) aI ak aq h
 rwa [hp,hp] at this
theorem zw(l:List Nat)(i:Nat):a9 (l.take (i+1))=a9 (l.take i)+18446744073709551616 ^ i*l.getD i 0:=by
 by_cases h:i<l.length
 ·rw[la (eE h),g5,eE h];rfl
 ·rw[g5,qT (by omega),dd (by omega),dd (by omega)];rfl
theorem BM(l:List Nat)(x:Nat):a9 (l++[x])=a9 l+18446744073709551616 ^ l.length*x:=by rw[uq,Ib]
theorem FE{l:List Nat}(h:okW l)(i:Nat):l.getD i 0<18446744073709551616:=by
 rw[g5]
 rcases q:l[i]? with _|x
 ·decide
 ·exact xz h q
theorem Ht:okW []:=fun z aL=>(by cases aL)
end
end Go.Opn
namespace Go.Opn
noncomputable section
open Go.Cre Go.RowKit Go.Proofs
theorem r'{x y:Nat}:jq x y<0↔x<y:=by unfold jq;split<;>(try split)<;>omega
theorem Nc{x y:Nat}:jq x y=0↔x=y:=by unfold jq;split<;>(try split)<;>omega
theorem pf{x y:Nat}(h:x<y):jq x y=-1:=by unfold jq;split<;>(try split)<;>omega
theorem tn{x y:Nat}(h:y<x):jq x y=1:=by unfold jq;split<;>(try split)<;>omega
theorem nW{x y:Nat}(h:x=y):jq x y=0:=by unfold jq;split<;>(try split)<;>omega
theorem drop_cons{l:List Nat}{i x:Nat}(h:l[i]?=some x):l.drop i=x::l.drop (i+1):=by
 have ar:=(gS.1 h).1;have ab:l[i]=x:=by rw[eE ar] at h;injection h
 rw[IE ar,ab]
theorem ig{l:List Nat}{i x:Nat}(h:l[i]?=some x):l.getD i 0=x:=by rw[g5,h];rfl
theorem lX{l:List Nat}{i:Nat}(h:l.length<=i):l.getD i 0=0:=by rw[g5,qT h];rfl
theorem cR.at{k:IntKind}{J:an}{b:Option Addr}{n c:Nat}{l:List Nat}(h:cR k J (.slice b n c) l)(ap:0<l.length):∃a off cells e,b=some ⟨a,off,none⟩/\J a=some (cells,e)/\∀i:Nat,i<l.length->∃x,l[i]?=some x/\nth cells (off+i*1)=some (.int k (x:Int)):=by
 obtain⟨a,off,cells,e,ad,af,aV⟩:=h.et ap;exact⟨a,off,cells,e,ad,af,fun i ar=>⟨l[i],eE ar,aV i _ (eE ar)⟩⟩
theorem KX{x:Nat}(h:x≠0):0<(aR x).length:=by have:=Ec h;omega
theorem jv{x y:Nat}(h:x<=y):(aR x).length<=(aR y).length:=by
 apply qW
 intro q;have:=Ed q;omega
theorem Hf{x k:Nat}(h:x<18446744073709551616 ^ k):(aR x).length<=k:=aaM h
theorem X5{x y k:Nat}(ab:(aR x).length<=k)(aB:(aR y).length<=k):(aR (x+y)).length<=k+1:=by
 have ad:=zx ab;have af:=zx aB;refine Hf ?_;rw[fC];omega
theorem vD{x y k j:Nat}(ab:(aR x).length<=k)(aB:(aR y).length<=j):(aR (x*y)).length<=k+j:=by
 have ad:=zx ab;have af:=zx aB;refine Hf ?_;rw[oB];exact Ms ad af
theorem Bc{x:Nat}(h:x<18446744073709551616):(aR x).length<=1:=Hf (by rw[B'];exact h)
theorem s4{x:Nat}(aO:x≠0)(h:x<18446744073709551616):aR x=[x]:=by
 rw[vS aO,nO h,rY h,rQ]
theorem QU{x:Nat}(h:(aR x).length=1):aR x=[x]/\x<18446744073709551616/\x≠0:=by
 have ad:x<18446744073709551616:=by have:=zx (x:=x) (k:=1) (EB h);rwa [B'] at this
 have aO:x≠0:=ng (by show(aR x).length≠0;omega);exact⟨s4 aO ad,ad,aO⟩
theorem cx.at{J:an}{b:Option Addr}{n c x:Nat}(h:cx J (.slice b n c) x)(ap:x≠0):∃a off cells e,b=some ⟨a,off,none⟩/\J a=some (cells,e)/\∀i:Nat,i<(aR x).length->∃y,(aR x)[i]?=some y/\nth cells (off+i*1)=some (.int .u64 (y:Int))/\y<18446744073709551616:=by
 obtain⟨a,off,cells,e,ad,af,aV⟩:=cR.at h (KX ap);exact⟨a,off,cells,e,ad,af,fun i ar=>by obtain⟨y,a7,a0⟩:=aV i ar;exact⟨y,a7,a0,xz (nF x) a7⟩⟩
theorem cR.xW{k:IntKind}{J ah:an}{v:Value}{l l':List Nat}(h:cR k J v l)(fR:cR k ah v l')(hle:J.le ah):l=l':=by
 obtain⟨b,c,aC⟩:=h.form;obtain⟨b',c',aW⟩:=fR.form;rw[aC] at aW;injection aW with _ aW _
 subst aC;apply List.ext_getElem aW
 intro i i1 i2;obtain⟨a,off,cells,e,rfl,GQ,GR⟩:=cR.at h I;obtain⟨bV,fV,cells',b3,w,a7,a0⟩:=cR.at fR I;injection w with w
 injection w with bm bW
 subst bm;subst bW;rw[hle _ _ GQ] at a7;injection a7 with a7
 injection a7 with bm bW
 subst bm;obtain⟨x,ev,gH⟩:=GR i i1;obtain⟨y,hU,iH⟩:=a0 i i2;rw[gH] at iH;injection iH with iH
 injection iH with _ iH
 rw[eE i1] at ev;rw[eE i2] at hU;injection ev with ev
 injection hU with hU
 omega
theorem cx.xW{J ah:an}{v:Value}{x y:Nat}(h:cx J v x)(fR:cx ah v y)(hle:J.le ah):x=y:=by
 have:=aa a9 (cR.xW h fR hle);rwa [hp,hp] at this
section
variable {K:ef}{B:dy}{o:Oper}{n:Nat}{ds:eK}{l:List (Nat×Value)}{m:a8}{J:an}
theorem BJ{t e:TypeId}{x:Operand}{ar:Operand}{di off k cap sz:Nat}{zs:List Value}{b:Int}{qB:IntKind}(aj:o.op=.slice t x none (some ar) none)(ab:bT l x=some (.slice (some ⟨di,off,none⟩) k cap))(aS:kQ K.P t=some (e,sz,zs))(kM:bT l ar=some (.int qB b))(aO:0<=b)(ad:b<=cap)(aJ:cap<cQ):c5 K B o n ds l m J (.slice (some ⟨di,off,none⟩) b.toNat cap):=by
 obtain⟨hu,ea,_⟩:=sV aS;intro call aQ S H ax aH;obtain⟨xy,pH,pI⟩:=uP (jr:=k) (top:=cap) (dl:=(k:Int)) (i:=b) (x:=some ar) ax H (by unfold ti;simp only[kM]) aO ad rfl;unfold cL e3;simp only[aj];show mn K.P _ t (ba S.T H x) (hH S.T H none) (hH S.T H (some ar))=_;rw[dg ax H ab,pH,show hH S.T H none=some none from rfl];unfold mn;simp only
 have:kt K.P H t (.slice (some ⟨di,off,none⟩) k cap) none xy=some (.slice (some ⟨di,off,none⟩) b.toNat cap):=by
  unfold kt;simp only[hu,ea];rw[show Nat.beq cap cQ=false from by
   cases ak:Nat.beq cap cQ with
   |false=>rfl
   |true=>have:=eC ak;omega,dB,pI]
  simp only[ks];cases ak:Nat.beq cap 0 with
  |false=>rw[dB];simp
  |true=>rw[cv];simp
 rw[this];rfl
end
abbrev eO(k:IntKind)(t a:Nat)(l:List Nat):Nat×ec:=(a,.row (b7 k l) t)
abbrev j'(J:an)(x:Nat):Value->a8->an->Prop:=fun u m' ah=>J.le ah/\m'=[]/\cx ah u x
theorem kF{c:Nat}(h:c<1000000):c<cQ:=zR h bC
theorem j'.ag{J ta:an}{x jf:Nat}(hle:ta.le J)(eM:jf=x){cj:a8}(hm:cj=[]):cj=[]/\ta.le J/\∀v m' bK dT,j' ta jf v m' bK->bK.le dT->J.le dT->j' J x v m' dT:=
 ⟨hm,hle,fun v m' bK dT ⟨_,af,aV⟩ bq fL=>⟨fL,af,eM▸aV.mono bq⟩⟩
section
variable {Q:dD Tryz.prog}{g0:Nat}{J:an}
theorem Du{v:Value}{x:Nat}(h:cx J v x)(ak:(aR x).length<=100000):Fn (a1 Q g0) 102 [v] [] J (fun u m' ah=>u=.bool (decide (x=1))/\m'=[]/\J=ah):=by
 obtain⟨b,c,rfl,kA⟩:=h.bG;refine Fn.cr (cu Tryz.func102) rfl rfl fun H=>?_;refine rg ?_;refine U V.au ?_;refine a2 ?_;refine al ?_;refine U V.bb ?_;refine U V.ay ?_;refine ft 6 (fun jD=>?_) fun jD=>?_
 ·obtain⟨aC,aW,cw⟩:=QU (x:=x) (by show(aR x).length=1;omega);obtain⟨a,off,cells,e,rfl,hy,az⟩:=h.at cw;obtain⟨y,aB,az,_⟩:=az 0 (by show 0<(aR x).length;omega);rw[aC] at aB;obtain rfl:x=y:=v9 aB;refine bo V.ay ?_;refine bo V.bh ?_;refine bo V.cg ?_;refine bo V.bb ?_;refine U V.bt ?_;refine U V.au ?_;refine aA ?_;refine ae.ret ?_;refine mR ?_;first
   |(have c:=jD
     exact⟨aa Value.bool (by first|(by_cases q:x=1<;>simp[q]<;>omega)|(have q:x≠1:=fun q=>c (by rw[q,s4 bC bC];rfl);simp[q])),rfl,rfl⟩)
 ·refine bs ?_;refine bs ?_;refine bs ?_;refine bs ?_;refine U V.bt ?_;refine U V.au ?_;refine aA ?_;refine ae.ret ?_;refine mR ?_;first
   |(have c:=jD
     exact⟨aa Value.bool (by first|(by_cases q:x=1<;>simp[q]<;>omega)|(have q:x≠1:=fun q=>c (by rw[q,s4 bC bC];rfl);simp[q])),rfl,rfl⟩)
theorem Fc{v w:Value}{x y:Nat}(ad:cx J v x)(af:cx J w y)(ab:(aR x).length<=100000)(aB:(aR y).length<=100000):Fn (a1 Q g0) 79 [v,w] [] J (fun u m' ah=>u=.int .i64 (jq x y)/\m'=[]/\J=ah):=by
 obtain⟨bQ,bH,rfl,aX⟩:=ad.bG;obtain⟨bL,bM,rfl,aU⟩:=af.bG;refine Fn.cr (cu Tryz.func79) rfl rfl fun H=>?_;refine rg ?_;refine U V.au ?_;refine a2 ?_;refine al ?_;refine U V.bb ?_;refine aA ?_;refine If (fun cl=>?_) fun cl=>?_
 ·refine rg ?_;refine al ?_;refine U V.bb ?_;refine aA ?_;refine If (fun eR=>?_) fun eR=>?_
  ·refine rg ?_;refine U V.au ?_;refine aA ?_;refine ae.ret ?_;refine mR ?_;first
    |(have c:=eR;exact⟨by rw[pf (Ed I)];rfl,rfl,rfl⟩)
    |(have c:=eR;exact⟨by rw[tn (Ed I)];rfl,rfl,rfl⟩)
    |exact⟨by
      obtain rfl:k=0:=I
      rw[nW (show x=y by rw[<-hp x,<-hp y];exact aa a9 aq)];rfl,rfl,rfl⟩
  ·refine ao ?_;refine ae.skip ?_;refine rg ?_;refine U V.au ?_;refine aA ?_;refine ae.ret ?_;refine mR ?_;first
    |(have c:=eR;exact⟨by rw[pf (Ed I)];rfl,rfl,rfl⟩)
    |(have c:=eR;exact⟨by rw[tn (Ed I)];rfl,rfl,rfl⟩)
    |exact⟨by
      obtain rfl:k=0:=I
      rw[nW (show x=y by rw[<-hp x,<-hp y];exact aa a9 aq)];rfl,rfl,rfl⟩
 ·refine ao ?_;refine ae.skip ?_;refine rg ?_;refine al ?_;refine U V.aY ?_;refine U V.au ?_;refine aA ?_;refine ae.block ?_;refine' ae.dO (l':=[(5,.int .i64 ((((aR x).length):Int) -1)),(0,_),(1,_)]) ⟨?gm,rfl,rfl,trivial⟩ (bx _) ?_;case gm=>first|exact bg|exact aa some (aa (Value.int .u64) I)|exact aa some (aa (Value.int .i64) I)
  refine ao ?_;refine' ae.lE (α:=(Nat)) (fun(k:Nat)=>[(5,.int .i64 ((k:Int) -1))]) (fun(k:Nat)=>k<=(aR x).length/\(aR x).drop k=(aR y).drop k) (fun(k:Nat)=>k) ((aR x).length) ?ag ?bD;case ag=>exact⟨bX _,by rw[tb I,tb I]⟩
  case bD=>
   rintro k hinv;try simp only at hinv
   obtain⟨hk,aq⟩:=hinv;refine rg ?_;refine U V.ay ?_;refine U V.bb ?_;refine aA ?_;refine If (fun iw=>?_) fun iw=>?_
   ·obtain⟨a,o,bN,e,rfl,hy,az⟩:=ad.at (ng I);obtain⟨bV,o',yp,b3,rfl,wJ,qv⟩:=af.at (ng I);obtain⟨p,ap,ha,_⟩:=az (k -1) (by show k -1<(aR x).length;omega);obtain⟨q,bS,nz,_⟩:=qv (k -1) (by show k -1<(aR y).length;omega);have ha:nth bN (o+((k:Int) -1).toNat*1)=some (.int .u64 (p:Int)):=by rw[show((k:Int) -1).toNat=k -1 by omega];exact ha
    have nz:nth yp (o'+((k:Int) -1).toNat*1)=some (.int .u64 (q:Int)):=by rw[show((k:Int) -1).toNat=k -1 by omega];exact nz
    refine dW ?_;refine ao ?_;refine ae.block ?_;refine ao ?_;refine ae.draw rfl (by kernel_rfl) (a':=[.val 0,.val 1,.val 2,.val 3,.val 4,.val 5,.val 6,.val 7,.val 8]) (by kernel_rfl) ?_;refine eg ?_;refine aT rfl V.bh ?_;refine aT rfl V.cg ?_;refine eg ?_;refine aT rfl V.bh ?_;refine aT rfl V.cg ?_;refine aT rfl V.bb ?_;refine bp.nil ?_;refine ao ?_;refine If (fun mZ=>?_) fun mZ=>?_
    ·refine rg ?_;refine U V.au ?_;refine aA ?_;refine ae.ret ?_;refine mR ?_;first
       |(have c:=mZ;exact⟨by rw[pf (Si ap bS (by rw[show k -1+1=k by omega];exact aq) I)];rfl,rfl,rfl⟩)
       |exact⟨by
         obtain rfl:k=0:=I
         rw[nW (show x=y by rw[<-hp x,<-hp y];exact aa a9 aq)];rfl,rfl,rfl⟩
    ·refine ao ?_;refine ae.skip ?_;refine ao ?_;refine ae.draw rfl (by kernel_rfl) (a':=[.val 0,.val 1,.val 2,.val 3,.val 4,.val 5,.val 6,.val 7,.val 8]) (by kernel_rfl) ?_;refine eg ?_;refine aT rfl V.bh ?_;refine aT rfl V.cg ?_;refine eg ?_;refine aT rfl V.bh ?_;refine aT rfl V.cg ?_;refine aT rfl V.bb ?_;refine bp.nil ?_;refine ao ?_;refine If (fun yo=>?_) fun yo=>?_
     ·refine rg ?_;refine U V.au ?_;refine aA ?_;refine ae.ret ?_;refine mR ?_;first
       |(have c:=mZ;exact⟨by rw[pf (Si ap bS (by rw[show k -1+1=k by omega];exact aq) I)];rfl,rfl,rfl⟩)
       |(have c:=yo;exact⟨by rw[tn (Si bS ap (by rw[show k -1+1=k by omega];exact aq.symm) I)];rfl,rfl,rfl⟩)
       |exact⟨by
         obtain rfl:k=0:=I
         rw[nW (show x=y by rw[<-hp x,<-hp y];exact aa a9 aq)];rfl,rfl,rfl⟩
     ·refine ao ?_;refine ae.skip ?_;refine rg ?_;refine U V.ay ?_;refine U V.aY ?_;refine U V.au ?_;refine a3 ?_;refine'⟨(k -1),_,?hinv,?gi,rfl,⟨?j1,rfl,rfl,trivial⟩,bx _,rfl⟩;case j1=>first|exact bg|exact aa some (aa (Value.int .u64) I)|exact aa some (aa (Value.int .i64) I)
      case gi=>exact bz
      case hinv=>exact⟨I,by rw[drop_cons (i:=k -1) ap,drop_cons (i:=k -1) bS,show k -1+1=k by omega,aq];congr 1;omega⟩
   ·refine ao ?_;refine ae.exit ?_;refine rg ?_;refine U V.au ?_;refine aA ?_;refine ae.ret ?_;refine mR ?_;first
     |exact⟨by
       obtain rfl:k=0:=I
       rw[nW (show x=y by rw[<-hp x,<-hp y];exact aa a9 aq)];rfl,rfl,rfl⟩
theorem xU{a n cap:Nat}{l:List Nat}(aj:okW l)(aE:n<=l.length)(aJ:n<=cap)(gY:cap<1000000):
 Fn (a1 Q g0) 105 [.slice (some ⟨a,0,none⟩) n cap] [eO .u64 122 a l] J (fun u m' ah=>∃k,u=.slice (some ⟨a,0,none⟩) k cap/\k<=n/\l.take k=aR (a9 (l.take n))/\m'=[eO .u64 122 a l]/\J=ah):=by
 have aiA:cap<cQ:=kF gY;have n7:(l.take n).length=n:=by rw[dY];omega
 have fin:∀k:Nat,k<=n->(∀j y,k<=j->(l.take n)[j]?=some y->y=0)->(∀y,0<k->(l.take n)[k -1]?=some y->y≠0)->l.take k=aR (a9 (l.take n)):=fun k hk ad af=>by
  rw[<-aae (sM aj) (by rw[n7];exact hk) ad af,rX,gn hk]
 refine Fn.cr (cu Tryz.func105) rfl rfl fun H=>?_;refine rg ?_;refine U V.au ?_;refine a2 ?_;refine al ?_;refine aA ?_;refine ae.block ?_;refine' ae.dO (l':=[(3,.int .i64 ((n):Int)),(0,_)]) ⟨?eu,rfl,trivial⟩ (bx _) ?_;case eu=>first|exact bg|exact aa some (aa (Value.int .u64) I)|exact aa some (aa (Value.int .i64) I)
 refine ao ?_;refine' ae.lE (α:=(Nat)) (fun(k:Nat)=>[(3,.int .i64 (k:Int))]) (fun(k:Nat)=>k<=n/\∀j y,k<=j->(l.take n)[j]?=some y->y=0) (fun(k:Nat)=>k) (n) ?ag ?bD;case ag=>exact⟨bX _,fun j y ad af=>by have:=(gS.1 af).1;omega⟩
 case bD=>
  rintro k hinv;try simp only at hinv
  obtain⟨hk,aL⟩:=hinv;refine rg ?_;refine U V.ay ?_;refine U V.bb ?_;refine U V.ay ?_;refine ft 8 (fun yD=>?_) fun yD=>?_
  ·obtain⟨x,ab⟩:∃x,l[k -1]?=some x:=⟨_,eE I⟩;have fT:(l.take n)[k -1]?=some x:=by rw[ji,bj I];exact ab
   have aE:nth (b7 .u64 l) (0+((k:Int) -1).toNat*1)=some (.int .u64 (x:Int)):=oV ab I;refine bo V.ay ?_;refine bo V.ay ?_;refine bo V.aY ?_;refine bo V.bh ?_;refine bo V.cI ?_;refine bo V.bb ?_;refine U V.bt ?_;refine aA ?_;refine If (fun eR=>?_) fun eR=>?_
   ·refine ao ?_;refine ae.skip ?_;refine ao ?_;refine ae.block ?_;refine rg ?_;refine U V.ay ?_;refine U V.aY ?_;refine U V.au ?_;refine a3 ?_;refine'⟨(k -1),_,?hinv,?gi,rfl,⟨?mH,rfl,trivial⟩,bx _,rfl⟩;case mH=>first|exact bg|exact aa some (aa (Value.int .u64) I)|exact aa some (aa (Value.int .i64) I)
    case gi=>exact bz
    case hinv=>
     exact⟨I,fun j y ad af=>by
         by_cases q:k<=j
         ·exact aL j y q af
         ·obtain rfl:j=k -1:=I
          rw[fT] at af;injection af with af;omega⟩
   ·refine ao ?_;refine ae.exit ?_;refine rg ?_;refine al ?_;refine' W.step rfl (Exec.val rfl rfl (BJ rfl rfl (kj Q g0) rfl ?aO ?ad ?af) ?_);case aO=>exact bz
    case ad=>exact bz
    case af=>exact bz
    refine U V.au ?_;refine aA ?_;refine ae.ret ?_;refine'⟨.inr rfl,rfl,_,_,.tmp rfl .nil,bx _,?_⟩;first
      |(have c:=eR;exact⟨k,by rw[jy];rfl,hk,fin k hk aL (fun y ad af=>by rw[fT] at af;injection af with af;omega),rfl,rfl⟩)
      |exact⟨k,by rw[jy];rfl,hk,fin k hk aL (fun y ad af=>by omega),rfl,rfl⟩
  ·refine bs ?_;refine bs ?_;refine bs ?_;refine bs ?_;refine bs ?_;refine bs ?_;refine U V.bt ?_;refine aA ?_;refine ae.sb rfl ?_;refine ao ?_;refine ae.exit ?_;refine rg ?_;refine al ?_;refine' W.step rfl (Exec.val rfl rfl (BJ rfl rfl (kj Q g0) rfl ?aO ?ad ?af) ?_);case aO=>exact bz
   case ad=>exact bz
   case af=>exact bz
   refine U V.au ?_;refine aA ?_;refine ae.ret ?_;refine'⟨.inr rfl,rfl,_,_,.tmp rfl .nil,bx _,?_⟩;first
    |exact⟨k,by rw[jy];rfl,hk,fin k hk aL (fun y ad af=>by omega),rfl,rfl⟩
end
end
end Go.Opn
